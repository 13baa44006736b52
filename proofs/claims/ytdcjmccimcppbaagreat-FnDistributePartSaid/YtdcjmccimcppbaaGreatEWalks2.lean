/- The walks: the code computes what the plain functions say. -/
import Derived.Test.YtdcjmccimcppbaaGreatEModels
import Derived.Test.YtdcjmccimcppbaaGreatEWalks1
set_option maxRecDepth 10000
set_option linter.unusedVariables false
namespace Go.Lift
open Go Go.Proofs
variable (G:GS) {n:Nat}
theorem B3{n_a0}{r}(h:uI n n_a0=some r):PQ G 346 [vI n_a0] (vB r):=by
 unfold uI at h
 refine pq aN Tryz.func346 rfl fun w X hC=> ?_
 refine rq hC [] [2] [] [] [] ?_
 obtain⟨x1,hx1,h⟩:=bd h
 obtain rfl:=so h
 exact rq hC [oV (bJ G hx1)] [2,3,4] [(2,vB x1)] [] [] (qr eR)
theorem d4{a}{r}(h:fK n a=some r):PQ G 312 [V.agg (aT a)] (vB r):=by
 unfold fK at h
 refine pq aN Tryz.func312 rfl fun w X hC=> ?_
 refine rq hC [.z (.b (true))] [1,2] [(1,V.tp (bQ a))] [] [] (vj h (fun x_=>aX [(2,vB x_)] [] []) (fun j1 h=> ?_) (fun x4 h=> ?_))
 ·
  refine aR h (fun c1 h=> ?_) (fun c1 h=> ?_)
  ·exact rk hC ([oN rI a.coefs]++rF 4 c1++sF 5) (fr 2 16) [(2,vB false)] [] [] (lE h)
  ·obtain⟨x2,hx2,h⟩:=bd h
   refine aR h (fun c2 h=> ?_) (fun c2 h=> ?_)
   ·exact rk hC ([oN rI a.coefs]++rT 3 c1++[oV (B3 G hx2),oT c1]++rF 5 c2) (fr 2 16) [(2,vB false)] [] [] (lE h)
   ·obtain⟨x3,hx3,h⟩:=bd h
    exact rk hC ([oN rI a.coefs]++rT 3 c1++[oV (B3 G hx2),oT c1]++rT 3 c2++[oV (dV G n a.coefs 347 (fun q0=>eX n q0) (fun q0 r h=>yJ G n q0 h) hx3),oT c2,oT c2]) (fr 2 16) [(2,vB (!x3))] [] [] (lE h)
 ·obtain rfl:=so h
  exact qr eR
theorem P4(G:GS)(n:Nat)(a:Affine)(c0__a1:Int){r:Bool}(h:gB n a c0__a1=some r):PQ G 345 [V.agg (aT a),V.tp [T.int .i64 c0__a1]] (vB r):=by
 unfold gB at h
 refine pq aN Tryz.func345 rfl fun w X hC=> ?_
 refine rq hC [.z (.b (true))] [2,3] [(2,V.tp (bQ a))] [] [] (vj h (fun x_=>aX [(3,vB x_)] [] []) (fun j1 h=> ?_) (fun x4 h=> ?_))
 ·
  obtain⟨x2,hx2,h⟩:=bd h
  refine aR h (fun c1 h=> ?_) (fun c1 h=> ?_)
  ·obtain⟨x3,hx3,h⟩:=bd h
   exact dk hC bL ([oV (d4 G hx2),oF c1,oF c1,oV (iU G hx3)]++rF 3 c1) (fr 3 10) [(3,vB (decide (c0__a1<x3)))] [] [] (lE h)
  ·exact dk hC bL ([oV (d4 G hx2)]++rT 5 c1) (fr 3 10) [(3,vB true)] [] [] (lE h)
 ·obtain rfl:=so h
  exact qr eR
theorem qJ(G:GS)(n:Nat)(s:List Affine)(fF:FuncId)(fC0:List T)(f:Affine→Option Bool)(hf: ∀(q0:Affine) r,f q0=some r→PQ G fF [V.agg (aT q0),V.tp fC0] (vB r)){r:Int}(h:f9 n s f=some r):PQ G 316 [vM aB s,V.fn fF [V.tp fC0]] (vI r):=by
 unfold f9 at h
 refine pq aN Tryz.func316 rfl fun w X hC=> ?_
 refine rq hC [] [4] [] [] [] (qs (rq hC [oN aB s] [6,7,8] [(7,vI (s.length:Int)),(8,vI 0)] [] [] (qb (jZ h (fun x_=>aX [(0,vM aB s),(1,V.fn fF [V.tp fC0]),(7,vI (s.length:Int)),(8,vI x_)] [] []) lS ?_))))
 rintro again2 x1 h
 refine rq hC [] [9] [(9,vB (decide (x1<(s.length:Int))))] [] [] (qs (aS h (fun c1 h=> ?_) (fun c1 h=> ?_)))
 ·refine qk (qs (qb (rq hC [] [5,10] [(5,vI x1)] [] [] ?_)))
  obtain⟨x3,hx3,x4,hx4,h⟩:=dG h
  refine rq hC [oR aB hx3,oV (hf x3 _ hx4)] (fr 11 6) [(16,vB x4)] [] [] (aS h (fun c2 h=> ?_) (fun c2 h=> ?_))
  ·obtain rfl:=so h
   exact rq hC [] [4,17] [(4,vI x1)] [] [] (qr eR)
  ·exact qk (rk hC [] [8,18] [(8,vI (wr (x1+1)))] [] [] (lE h))
 ·obtain rfl:=so h
  exact cU (rq hC [] [4] [(4,vI (-1))] [] [] (qr eR))
theorem iG(G:GS)(n:Nat)(s:List Affine)(fF:FuncId)(fC0:List T)(f:Affine→Option Bool)(hf: ∀(q0:Affine) r,f q0=some r→PQ G fF [V.agg (aT q0),V.tp fC0] (vB r)){r:Bool}(h:cK n s f=some r):PQ G 264 [vM aB s,V.fn fF [V.tp fC0]] (vB r):=by
 unfold cK at h
 refine pq aN Tryz.func264 rfl fun w X hC=> ?_
 refine rq hC [] [4] [] [] [] ?_
 obtain⟨x1,hx1,h⟩:=bd h
 obtain rfl:=so h
 exact rq hC [oV (qJ G n s fF fC0 f hf hx1)] (fr 4 5) [(4,vB (decide ((0:Int)≤x1)))] [] [] (qr eR)
theorem rN{list}{depth}{r}(h:lR n list depth=some r):PQ G 309 [vM aB list,vI depth] (vB r):=by
 unfold lR at h
 refine pq aN Tryz.func309 rfl fun w X hC=> ?_
 refine rq hC [.z (.b (true))] [3,4] [(3,V.tp [T.int .i64 depth])] [] [] (vj h (fun x_=>aX [(4,vB x_)] [] []) (fun j1 h=> ?_) (fun x4 h=> ?_))
 ·
  obtain⟨x2,hx2,h⟩:=bd h
  refine aR h (fun c1 h=> ?_) (fun c1 h=> ?_)
  ·exact rk hC ([oN aB list,oV (bJ G hx2)]++rF 5 c1) (fr 4 10) [(4,vB false)] [] [] (lE h)
  ·obtain⟨x3,hx3,h⟩:=bd h
   exact rk hC ([oN aB list,oV (bJ G hx2)]++rT 3 c1++[oV (iG G n list 345 [T.int .i64 depth] (fun q0=>gB n q0 depth) (fun q0 r h=>P4 G n q0 depth h) hx3),oT c1,oT c1]) (fr 4 10) [(4,vB (!x3))] [] [] (lE h)
 ·obtain rfl:=so h
  exact qr eR
theorem S4{nest}{r}(h:mH n nest=some r):PQ G 252 [vM aD nest] (vB r):=by
 unfold mH at h
 refine pq aN Tryz.func252 rfl fun w X hC=> ?_
 refine rq hC [] [2] [] [] [] (qs (rq hC [oN aD nest] [5,6,7] [(5,vM aD nest),(6,vI (nest.length:Int)),(7,vI 0)] [] [] (qb (jZ h (fun x_=>aX [(0,vM aD nest),(5,vM aD nest),(6,vI (nest.length:Int)),(7,vI x_)] [] []) lS ?_))))
 rintro again2 x1 h
 refine rq hC [] [8] [(8,vB (decide (x1<(nest.length:Int))))] [] [] (qs (aS h (fun c1 h=> ?_) (fun c1 h=> ?_)))
 ·refine qk (qs (qb ?_))
  obtain⟨x3,hx3,h⟩:=bd h
  refine rq hC [oR aD hx3,.z (.nat 20)] [3,4,9,10,11] [(3,vI x1),(4,V.ref 20 0)] [(20,some (E.cells (lB x3)))] [(20,true)] (vj h (fun x_=>aX [(0,vM aD nest),(5,vM aD nest),(6,vI (nest.length:Int)),(7,vI x1),(23,vB x_)] [(20,E.cells (lB x3))] [20]) (fun j4 h=> ?_) (fun x7 h=> ?_))
  ·
   obtain⟨x5,hx5,h⟩:=bd h
   refine aR h (fun c2 h=> ?_) (fun c2 h=> ?_)
   ·obtain⟨x6,hx6,h⟩:=bd h
    exact rk hC ([oV (rN G hx5)]++rF 4 c2++[oV (rN G hx6),oF c2,oF c2]) (fr 12 12) [(23,vB (!x6))] [] [] (lE h)
   ·exact rk hC ([oV (rN G hx5)]++rT 6 c2) (fr 12 12) [(23,vB true)] [] [] (lE h)
  ·refine aS h (fun c3 h=> ?_) (fun c3 h=> ?_)
   ·obtain rfl:=so h
    exact rq hC [] [2] [(2,vB false)] [] [] (qr eR)
   ·exact qk (rk hC [] [7,24] [(7,vI (wr (x1+1)))] [] [] (lE h))
 ·obtain rfl:=so h
  exact cU (rq hC [oN aD nest] [2,25,26,27] [(2,vB (decide ((nest.length:Int)≤4)))] [] [] (qr eR))
theorem eY{a}{point}{r}(h:cD n a point=some r):PQ G 294 [V.agg (aT a),vM rI point] (vI r):=by
 unfold cD at h
 refine pq aN Tryz.func294 rfl fun w X hC=> ?_
 refine rq hC [.z (.b (true))] [2,4] [(2,V.tp (bQ a))] [] [] (rq hC [] [5,8,9] [(5,vI a.const)] [] [] (qs (rq hC [oN rI point] [10,11,12] [(10,vM rI point),(11,vI (point.length:Int)),(12,vI 0)] [] [] (qb (jZ h (fun x_=>aX [(2,V.tp (bQ a)),(5,vI x_.1),(10,vM rI point),(11,vI (point.length:Int)),(12,vI x_.2)] [] []) lS ?_)))))
 rintro again3 ⟨x1,x2⟩ h
 refine rq hC [] [13] [(13,vB (decide (x2<(point.length:Int))))] [] [] (qs (aS h (fun c1 h=> ?_) (fun c1 h=> ?_)))
 ·refine qk (qs (qb ?_))
  obtain⟨x4,hx4,h⟩:=bd h
  refine rq hC [oR rI hx4] [6,7,14,15,16] [(6,vI x2),(7,vI x4)] [] [] ?_
  obtain⟨x5,hx5,h⟩:=bd h
  exact rk hC [oR rI hx5] [5,17,18,19,20,21,22,23,24,25] [(5,vI (wr (x1+(wr (x5*x4)))))] [] [] (rk hC [] [12,26] [(12,vI (wr (x2+1)))] [] [] (lE h))
 ·obtain rfl:=so h
  exact cU (rq hC [] [4,27] [(4,vI x1)] [] [] (qr eR))
theorem S5{l}{point}{r}(h:mI n l point=some r):PQ G 310 [V.agg (lB l),vM rI point] (V.tup [vI r.1,vI r.2]):=by
 unfold mI at h
 refine pq aN Tryz.func310 rfl fun w X hC=> ?_
 refine rq hC [.z (.b (true))] [2,4,5] [(2,V.tp (wV l))] [] [] (qs ?_)
 obtain⟨x1,hx1,x2,hx2,x3,hx3,h⟩:=lC h
 obtain⟨x4,hx4,h⟩:=bd h
 refine dk hC bL [oR aB hx1,oV (eY G hx2),oR aB hx3,oV (eY G hx4)] [6,7,12,13,14,15,16,17,18,19,20,21,22,23] [(6,vI x2),(7,vI x4)] [] [] (qs (rq hC [oN aB l.lo] (fr 24 4) [(25,vM aB l.lo),(26,vI (l.lo.length:Int)),(27,vI 0)] [] [] (qb (jZ h (fun x_=>aX [(1,vM rI point),(2,V.tp (wV l)),(6,vI x_.1),(7,vI x4),(25,vM aB l.lo),(26,vI (l.lo.length:Int)),(27,vI x_.2)] [] []) lS ?_))))
 rintro again7 ⟨x5,x6⟩ h
 refine rq hC [] [28] [(28,vB (decide (x6<(l.lo.length:Int))))] [] [] (qs (aS h (fun c1 h=> ?_) (fun c1 h=> ?_)))
 ·refine qk (qs (qb ?_))
  obtain⟨x8,hx8,h⟩:=bd h
  refine rq hC [oR aB hx8,.z (.nat 20)] [9,29,30] [(9,V.ref 20 0)] [(20,some (E.cells (aT x8)))] [(20,true)] ?_
  obtain⟨x9,hx9,h⟩:=bd h
  exact rk hC [oV (eY G hx9)] [6,31,32,33,34,35] [(6,vI (max x5 x9))] [] [] (rk hC [] [27,36] [(27,vI (wr (x6+1)))] [] [] (lE h))
 ·refine cU (qs (rq hC [oN aB l.hi] (fr 37 4) [(38,vM aB l.hi),(39,vI (l.hi.length:Int)),(40,vI 0)] [] [] (qb (jZ h (fun x_=>aX [(1,vM rI point),(6,vI x5),(7,vI x_.1),(38,vM aB l.hi),(39,vI (l.hi.length:Int)),(40,vI x_.2)] [] []) lS ?_))))
  rintro again12 ⟨x10,x11⟩ h
  refine rq hC [] [41] [(41,vB (decide (x11<(l.hi.length:Int))))] [] [] (qs (aS h (fun c2 h=> ?_) (fun c2 h=> ?_)))
  ·refine qk (qs (qb ?_))
   obtain⟨x13,hx13,h⟩:=bd h
   refine rq hC [oR aB hx13,.z (.nat 20)] [11,42,43] [(11,V.ref 20 0)] [(20,some (E.cells (aT x13)))] [(20,true)] ?_
   obtain⟨x14,hx14,h⟩:=bd h
   exact rk hC [oV (eY G hx14)] [7,44,45,46,47,48] [(7,vI (min x10 x14))] [] [] (rk hC [] [40,49] [(40,vI (wr (x11+1)))] [] [] (lE h))
  ·obtain rfl:=so h
   exact cU (rq hC [] [4,5,50,51] [(4,vI x5),(5,vI x10)] [] [] (qr eR))
theorem zQ(G:GS): ∀(n:Nat) (w_a0:Walking) (w_a0G2:Nat) (point:List Int) {r:Bool×Walking} (h:i_walking_walk n w_a0 point=some r),VQ G 253 [E.cells [vM aD w_a0.nest,vI w_a0.steps,ms 1 w_a0G2 1 (rL rI) w_a0.out],ar 48 w_a0G2 1 (rL rI) w_a0.out] [V.ref 0 0,vM rI point] (vB r.1) [E.cells [vM aD r.2.nest,vI r.2.steps,ms 1 (w_a0G2+1) 1 (rL rI) r.2.out],ar 48 (w_a0G2+1) 1 (rL rI) r.2.out]:=by
 intro n
 induction n with
 |zero=>intro w_a0 w_a0G2 point r h;rw [i_walking_walk.eq_def] at h;cases h
 |succ n ih=>
  intro w_a0 w_a0G2 point r h
  rw [i_walking_walk.eq_def] at h;dsimp only at h
  refine vq aN Tryz.func253 rfl fun w X β0 hC hg=> ?_
  refine rq hC [] [4] [] [] [] (qs (rq hC [oN rI point,oN aD w_a0.nest] (fr 8 8) [(15,vB (decide ((point.length:Int)=(w_a0.nest.length:Int))))] [] [] (aS h (fun c1 h=> ?_) (fun c1 h=> ?_))))
  ·refine qs ?_
   obtain⟨x1,hx1,x2,hx2,h⟩:=dG h
   obtain rfl:=so h
   exact dk hC bL [oC [] [20] (G.clone point hx1),.z (.at 5),.z (.fz 20 [22] []),.z (.int 0),oA (aO (rL rI) hx2),oQ (bW (r:=(rL rI)) 1 (fun _=>rfl) w_a0.out),oQ (bW (r:=(rL rI)) 1 (fun _=>rfl) [x1])] (fr 16 11) [] [(20,none),(1,some (ar 48 (w_a0G2+1) 1 (rL rI) x2)),(0,sc [vM aD w_a0.nest,vI w_a0.steps,ms 1 (w_a0G2+1) 1 (rL rI) x2])] [(20,true)] (rq hC [oN (rL rI) x2] [4,27,28,29,30,31,32] [(4,vB (decide ((x2.length:Int)≤120)))] [] [] (qw (dW 0 2 1 w_a0G2 (w_a0G2+1) 1 0 (List.map (rL rI) x2).length (e:= .arr 48 (w_a0G2+1) 1 (List.map (rL rI) x2)) (cs:=[vM aD w_a0.nest,vI w_a0.steps,ms 1 (w_a0G2+1) 1 (rL rI) x2]) rfl (by kernel_rfl) (by kernel_rfl) (by kernel_rfl) (by kernel_rfl) rfl rfl hg.2.1) (qr eW)))
  ·refine qk ?_
   obtain⟨x3,hx3,x4,hx4,h⟩:=dG h
   refine rq hC [oN rI point,oR aD hx3,oV (S5 G hx4)] [5,6,33,34,35,36,37,38,39,40,41,42,43,44,45] [(5,vI x4.1),(6,vI x4.2)] [] [] (qs (rq hC [] [7,46] [(7,vI x4.1)] [] [] (qb (bA (γ:=Nat) h (fun x_ g_=>aX [(0,V.ref 0 0),(1,vM rI point),(6,vI x4.2),(7,vI x_.2.2.2)] [(0,E.cells [vM aD x_.1,vI x_.2.1,ms 1 g_ 1 (rL rI) x_.2.2.1]),(1,ar 48 g_ 1 (rL rI) x_.2.2.1)] [0,1]) w_a0G2 (lS) ?_))))
   rintro again10 ⟨x5,x6,x7,x8⟩ g9 h
   refine qs (rq hC [] [47,48,49] [(49,vB (decide (x8<x4.2)))] [] [] (aS h (fun c2 h=> ?_) (fun c2 h=> ?_)))
   ·refine qk (qs (qb (rq hC [] (fr 52 7) [] [(0,sc [vM aD x5,vI (wr (x6+1)),ms 1 g9 1 (rL rI) x7])] [] ?_)))
    obtain⟨j11,hj11,h⟩:=C0 h
    refine lF (γ:=Nat) (j:=j11) (r:=r) (fun x_ g_=>aX [(0,V.ref 0 0),(1,vM rI point),(6,vI x4.2),(7,vI x8),(74,vB x_.2.2.2)] [(0,E.cells [vM aD x_.1,vI x_.2.1,ms 1 g_ 1 (rL rI) x_.2.2.1]),(1,ar 48 g_ 1 (rL rI) x_.2.2.1)] [0,1]) ?_ ?_
    ·
     refine aR h (fun c3 h=> ?_) (fun c3 h=> ?_)
     ·obtain⟨x12,hx12,x13,hx13,x14,hx14,h⟩:=lC h
      exact rk hC (rF 3 c3++[oC [] [20] (G.clone point hx12),oF c3,oF c3,.z (.int 0),oF c3,oA (aO rI hx13),.z (.at 3),.z (.fz 20 [71] []),oQ (bW (r:=rI) 1 (fun _=>rfl) x12),oQ (bW (r:=rI) 1 (fun _=>rfl) [x8]),oF c3,oC [0,1] [] (ih (⟨x5,wr (x6+1),x7⟩:Walking) g9 x13 hx14),oF c3,oF c3]) (fr 59 16) [(74,vB (!x14.1))] [(20,none),(1,some (ar 48 (g9+1) 1 (rL rI) x14.2.out)),(0,sc [vM aD x14.2.nest,vI x14.2.steps,ms 1 (g9+1) 1 (rL rI) x14.2.out])] [(20,true),(0,true),(1,true)] ⟨(x14.2.nest,x14.2.steps,x14.2.out, !x14.1),(g9+1),h,lS⟩
     ·exact rk hC (rT 9 c3) (fr 59 16) [(74,vB true)] [] [] ⟨(x5,wr (x6+1),x7,true),g9,h,lS⟩
    ·rintro⟨x15,x16,x17,x18⟩ g19 h
     subst hj11
     refine aS h (fun c4 h=> ?_) (fun c4 h=> ?_)
     ·obtain rfl:=so h
      exact rq hC [] [4] [(4,vB false)] [] [] (qw (dW 0 2 1 w_a0G2 g19 1 0 (List.map (rL rI) x17).length (e:= .arr 48 g19 1 (List.map (rL rI) x17)) (cs:=[vM aD x15,vI x16,ms 1 g19 1 (rL rI) x17]) rfl (by kernel_rfl) (by kernel_rfl) (by kernel_rfl) (by kernel_rfl) rfl rfl hg.2.1) (qr eW))
     ·exact qk (rk hC [] [7,50,51] [(7,vI (wr (x8+1)))] [] [] ⟨(x15,x16,x17,wr (x8+1)),g19,h,lS⟩)
   ·obtain rfl:=so h
    exact cU (rq hC [] [4] [(4,vB true)] [] [] (qw (dW 0 2 1 w_a0G2 g9 1 0 (List.map (rL rI) x7).length (e:= .arr 48 g9 1 (List.map (rL rI) x7)) (cs:=[vM aD x5,vI x6,ms 1 g9 1 (rL rI) x7]) rfl (by kernel_rfl) (by kernel_rfl) (by kernel_rfl) (by kernel_rfl) rfl rfl hg.2.1) (qr eW)))
theorem P8{nest}{r}(h:kQ n nest=some r):VQ G 175 [] [vM aD nest] (V.tup [ms 0 1 1 (rL rI) r.1,vB r.2]) [ar 48 1 1 (rL rI) r.1]:=by
 unfold kQ at h
 refine vq aN Tryz.func175 rfl fun w X β0 hC hg=> ?_
 refine rq hC [] [2,3] [] [] [] (qs ?_)
 obtain⟨x1,hx1,h⟩:=bd h
 refine rq hC [oV (S4 G hx1)] [5,6,7] [(7,vB (!x1))] [] [] (aS h (fun c1 h=> ?_) (fun c1 h=> ?_))
 ·obtain rfl:=so h
  exact rq hC [] [2,3] [(2,V.t T.nilS),(3,vB false)] [] [] (qw (lk hC [.grow 2 0 48] [2] [(2,ms 0 1 1 (rL rI) [])] [(0,some (ar 48 1 1 (rL rI) []))] [(0,true)]) (qr eW))
 ·refine qk (rq hC [.z (.nat 20)] [4,8,9,10] [(4,V.ref 20 0)] [(20,sc [vM aD nest,vI 0,V.t T.nilS])] [(20,true)] (qs ?_))
  obtain⟨x2,hx2,h⟩:=bd h
  refine rq hC [.z (.at 2),.z (.growc 20 2 21 48),oC [20,21] [] (zQ G n (⟨nest,0,[]⟩:Walking) 1 [] hx2)] [11,12,13] [(13,vB (!x2.1))] [(21,some (ar 48 2 1 (rL rI) x2.2.out)),(20,sc [vM aD x2.2.nest,vI x2.2.steps,ms 21 2 1 (rL rI) x2.2.out])] [(21,true),(20,true),(21,true)] (aS h (fun c2 h=> ?_) (fun c2 h=> ?_))
  ·obtain rfl:=so h
   exact rq hC [] [2,3] [(2,V.t T.nilS),(3,vB false)] [] [] (qw (lk hC [.grow 2 0 48] [2] [(2,ms 0 1 1 (rL rI) [])] [(0,some (ar 48 1 1 (rL rI) []))] [(0,true)]) (qr eW))
  ·obtain rfl:=so h
   exact qk (rq hC [] [2,3,14,15,16,17] [(2,ms 21 2 1 (rL rI) x2.2.out),(3,vB true)] [] [] (qw (lk hC [.ren 2 21 0] [2] [(2,ms 0 1 1 (rL rI) x2.2.out)] [(0,some (ar 48 1 1 (rL rI) x2.2.out)),(21,none)] [(0,true)]) (qr eW)))
theorem iT{a}{r}(h:lP n a=some r):PQ G 313 [V.agg (aT a)] (vB r):=by
 unfold lP at h
 refine pq aN Tryz.func313 rfl fun w X hC=> ?_
 refine rq hC [.z (.b (true))] [1,2] [(1,V.tp (bQ a))] [] [] (vj h (fun x_=>aX [(2,vB x_)] [] []) (fun j1 h=> ?_) (fun x2 h=> ?_))
 ·
  refine aR h (fun c1 h=> ?_) (fun c1 h=> ?_)
  ·exact rk hC ([oN rI a.coefs]++rF 4 c1) (fr 2 10) [(2,vB false)] [] [] (lE h)
  ·exact rk hC ([oN rI a.coefs]++rT 4 c1) (fr 2 10) [(2,vB (decide (a.const=0)))] [] [] (lE h)
 ·obtain rfl:=so h
  exact qr eR
theorem nB{a}{r}(h:iC n a=some r):PQ G 314 [V.agg (cT a)] (vB r):=by
 unfold iC at h
 refine pq aN Tryz.func314 rfl fun w X hC=> ?_
 refine rq hC [.z (.b (true))] [1,2] [(1,V.tp (d6 a))] [] [] (vj h (fun x_=>aX [(2,vB x_)] [] []) (fun j1 h=> ?_) (fun x2 h=> ?_))
 ·
  refine aR h (fun c1 h=> ?_) (fun c1 h=> ?_)
  ·exact rk hC (rF 5 c1) (fr 2 10) [(2,vB false)] [] [] (lE h)
  ·exact rk hC (rT 3 c1++[oN aB a.subs,oT c1,oT c1]) (fr 2 10) [(2,vB (decide ((a.subs.length:Int)=0)))] [] [] (lE h)
 ·obtain rfl:=so h
  exact qr eR
theorem P5(G:GS)(n:Nat)(s:Affine)(c0__a1:Int){r:Bool}(h:iS n s c0__a1=some r):PQ G 311 [V.agg (aT s),V.tp [T.int .i64 c0__a1]] (vB r):=by
 unfold iS at h
 refine pq aN Tryz.func311 rfl fun w X hC=> ?_
 refine rq hC [.z (.b (true))] [2,3] [(2,V.tp (bQ s))] [] [] (vj h (fun x_=>aX [(3,vB x_)] [] []) (fun j1 h=> ?_) (fun x4 h=> ?_))
 ·
  obtain⟨x2,hx2,h⟩:=bd h
  refine aR h (fun c1 h=> ?_) (fun c1 h=> ?_)
  ·obtain⟨x3,hx3,h⟩:=bd h
   exact dk hC bL ([oV (d4 G hx2),oF c1,oF c1,oV (iU G hx3)]++rF 3 c1) (fr 3 10) [(3,vB (decide (c0__a1<x3)))] [] [] (lE h)
  ·exact dk hC bL ([oV (d4 G hx2)]++rT 5 c1) (fr 3 10) [(3,vB true)] [] [] (lE h)
 ·obtain rfl:=so h
  exact qr eR
theorem nC{a}{depth}{r}(h:lT n a depth=some r):PQ G 255 [V.agg (cT a),vI depth] (vB r):=by
 unfold lT at h
 refine pq aN Tryz.func255 rfl fun w X hC=> ?_
 refine rq hC [.z (.b (true)),.z (.b (true))] [2,3,4] [(2,V.tp (d6 a)),(3,V.tp [T.int .i64 depth])] [] [] (vj h (fun x_=>aX [(4,vB x_)] [] []) (fun j1 h=> ?_) (fun x5 h=> ?_))
 ·
  obtain⟨x2,hx2,h⟩:=bd h
  refine aR h (fun c1 h=> ?_) (fun c1 h=> ?_)
  ·exact rk hC ([oV (fI G hx2)]++rF 5 c1++sF 6) (fr 4 17) [(4,vB false)] [] [] (lE h)
  ·obtain⟨x3,hx3,h⟩:=bd h
   refine aR h (fun c2 h=> ?_) (fun c2 h=> ?_)
   ·exact rk hC ([oV (fI G hx2)]++rT 3 c1++[oN aB a.subs,oT c1,oV (bJ G hx3),oT c1]++rF 6 c2) (fr 4 17) [(4,vB false)] [] [] (lE h)
   ·obtain⟨x4,hx4,h⟩:=bd h
    exact rk hC ([oV (fI G hx2)]++rT 3 c1++[oN aB a.subs,oT c1,oV (bJ G hx3),oT c1]++rT 4 c2++[oV (iG G n a.subs 311 [T.int .i64 depth] (fun q0=>iS n q0 depth) (fun q0 r h=>P5 G n q0 depth h) hx4),oT c2,oT c2]) (fr 4 17) [(4,vB (!x4))] [] [] (lE h)
 ·obtain rfl:=so h
  exact qr eR
theorem aAE(G:GS): ∀(n:Nat) (e:Expr) (depth:Int) (deep:Int) (count:Int) {r:Bool×Int} (h:i_exprScan n e depth deep count=some r),VQ G 256 [E.cells [vI count]] [V.agg (dJ e),vI depth,vI deep,V.ref 0 0] (vB r.1) [E.cells [vI r.2]]:=by
 intro n
 induction n with
 |zero=>intro e depth deep count r h;rw [i_exprScan.eq_def] at h;cases h
 |succ n ih=>
  intro e depth deep count r h
  rw [i_exprScan.eq_def] at h;dsimp only at h
  refine vq aN Tryz.func256 rfl fun w X β0 hC hg=> ?_
  refine rq hC [.z (.b (true))] [4,8] [(4,V.tp (gW e))] [] [] (rq hC [] (fr 9 5) [] [(0,sc [vI (wr (count+1))])] [] (qs (vj h (fun x_=>aX [(1,vI depth),(2,vI deep),(3,V.ref 0 0),(4,V.tp (gW e)),(21,vB x_)] [(0,E.cells [vI (wr (count+1))])] [0]) (fun j1 h=> ?_) (fun x2 h=> ?_))))
  ·
   refine aR h (fun c1 h=> ?_) (fun c1 h=> ?_)
   ·exact rk hC (rF 3 c1) (fr 14 8) [(21,vB (decide ((5:Int)<deep)))] [] [] (lE h)
   ·exact rk hC (rT 3 c1) (fr 14 8) [(21,vB true)] [] [] (lE h)
  ·refine aS h (fun c2 h=> ?_) (fun c2 h=> ?_)
   ·obtain rfl:=so h
    exact rq hC [] [8] [(8,vB false)] [] [] (qr eW)
   ·refine qk (qs (vj h (fun x_=>aX [(1,vI depth),(2,vI deep),(3,V.ref 0 0),(4,V.tp (gW e)),(51,vB x_)] [(0,E.cells [vI (wr (count+1))])] [0]) (fun j3 h=> ?_) (fun x10 h=> ?_)))
    ·
     refine aR h (fun c3 h=> ?_) (fun c3 h=> ?_)
     ·refine aR h (fun c4 h=> ?_) (fun c4 h=> ?_)
      ·refine aR h (fun c5 h=> ?_) (fun c5 h=> ?_)
       ·exact rk hC (rF 4 c3++sF 4++rF 4 c4++[eF,oF c4]++sF 5++rF 4 c5++[eF,oF c5,eF]) (fr 22 30) [(51,vB false)] [] [] (lE h)
       ·obtain⟨x4,hx4,h⟩:=bd h
        exact rk hC (rF 4 c3++sF 4++rF 4 c4++[eF,oF c4]++sF 5++rT 3 c5++[oV (nB G hx4),oT c5,eF,oT c5,eF]) (fr 22 30) [(51,vB (!x4))] [] [] (lE h)
      ·obtain⟨x5,hx5,h⟩:=bd h
       refine aR h (fun c6 h=> ?_) (fun c6 h=> ?_)
       ·refine aR h (fun c7 h=> ?_) (fun c7 h=> ?_)
        ·exact rk hC (rF 4 c3++sF 4++rT 3 c4++[oV (iT G hx5),oT c4,eF,oT c4,eF]++rF 4 c6++rF 4 c7++[oF c6,oF c7,oF c6]) (fr 22 30) [(51,vB false)] [] [] (lE h)
        ·obtain⟨x6,hx6,h⟩:=bd h
         exact rk hC (rF 4 c3++sF 4++rT 3 c4++[oV (iT G hx5),oT c4,eF,oT c4,eF]++rF 4 c6++rT 3 c7++[oV (nB G hx6),oT c7,oF c6,oT c7,oF c6]) (fr 22 30) [(51,vB (!x6))] [] [] (lE h)
       ·exact rk hC (rF 4 c3++sF 4++rT 3 c4++[oV (iT G hx5),oT c4,eF,oT c4,eF]++rT 6 c6) (fr 22 30) [(51,vB true)] [] [] (lE h)
     ·refine aR h (fun c8 h=> ?_) (fun c8 h=> ?_)
      ·refine aR h (fun c9 h=> ?_) (fun c9 h=> ?_)
       ·refine aR h (fun c10 h=> ?_) (fun c10 h=> ?_)
        ·exact rk hC (rT 4 c3++rF 4 c8++rF 4 c9++[oF c8,oF c9,oF c8]++sF 4++rF 4 c10++[eF,oF c10,eF]) (fr 22 30) [(51,vB false)] [] [] (lE h)
        ·obtain⟨x7,hx7,h⟩:=bd h
         exact rk hC (rT 4 c3++rF 4 c8++rF 4 c9++[oF c8,oF c9,oF c8]++sF 4++rT 3 c10++[oV (nB G hx7),oT c10,eF,oT c10,eF]) (fr 22 30) [(51,vB (!x7))] [] [] (lE h)
       ·obtain⟨x8,hx8,h⟩:=bd h
        refine aR h (fun c11 h=> ?_) (fun c11 h=> ?_)
        ·refine aR h (fun c12 h=> ?_) (fun c12 h=> ?_)
         ·exact rk hC (rT 4 c3++rF 4 c8++rT 3 c9++[oV (iT G hx8),oT c9,oF c8,oT c9,oF c8]++rF 4 c11++rF 4 c12++[oF c11,oF c12,oF c11]) (fr 22 30) [(51,vB false)] [] [] (lE h)
         ·obtain⟨x9,hx9,h⟩:=bd h
          exact rk hC (rT 4 c3++rF 4 c8++rT 3 c9++[oV (iT G hx8),oT c9,oF c8,oT c9,oF c8]++rF 4 c11++rT 3 c12++[oV (nB G hx9),oT c12,oF c11,oT c12,oF c11]) (fr 22 30) [(51,vB (!x9))] [] [] (lE h)
        ·exact rk hC (rT 4 c3++rF 4 c8++rT 3 c9++[oV (iT G hx8),oT c9,oF c8,oT c9,oF c8]++rT 6 c11) (fr 22 30) [(51,vB true)] [] [] (lE h)
      ·exact rk hC (rT 4 c3++rT 6 c8++sT 6) (fr 22 30) [(51,vB true)] [] [] (lE h)
    ·refine aS h (fun c13 h=> ?_) (fun c13 h=> ?_)
     ·obtain rfl:=so h
      exact rq hC [] [8] [(8,vB false)] [] [] (qr eW)
     ·refine qk (qs (qb (rq hC [] (fr 52 4) [(52,vB (decide (e.kind=1)))] [] [] (aS h (fun c14 h=> ?_) (fun c14 h=> ?_)))))
      ·refine vj h (fun x_=>aX [(8,vB x_)] [(0,E.cells [vI (wr (count+1))])] [0]) (fun j11 h=> ?_) (fun x13 h=> ?_)
       ·
        obtain⟨x12,hx12,h⟩:=bd h
        refine aR h (fun c15 h=> ?_) (fun c15 h=> ?_)
        ·exact rk hC ([oV (bJ G hx12)]++rF 5 c15) [8,56,57,58,59,60,61,62,63,64] [(8,vB false)] [] [] (lE h)
        ·exact rk hC ([oV (bJ G hx12)]++rT 3 c15++[oN aK e.kids,oT c15,oT c15]) [8,56,57,58,59,60,61,62,63,64] [(8,vB (decide ((e.kids.length:Int)=0)))] [] [] (lE h)
       ·obtain rfl:=so h
        exact qr eW
      ·refine rq hC [] (fr 65 4) [(65,vB (decide (e.kind=2)))] [] [] (aS h (fun c16 h=> ?_) (fun c16 h=> ?_))
       ·refine vj h (fun x_=>aX [(8,vB x_)] [(0,E.cells [vI (wr (count+1))])] [0]) (fun j14 h=> ?_) (fun x17 h=> ?_)
        ·
         obtain⟨x15,hx15,h⟩:=bd h
         refine aR h (fun c17 h=> ?_) (fun c17 h=> ?_)
         ·exact rk hC ([oV (d4 G hx15)]++rF 6 c17++sF 5) [8,69,70,71,72,73,74,75,76,77,78,79,80,81,82,83,84] [(8,vB false)] [] [] (lE h)
         ·obtain⟨x16,hx16,h⟩:=bd h
          refine aR h (fun c18 h=> ?_) (fun c18 h=> ?_)
          ·exact rk hC ([oV (d4 G hx15)]++rT 3 c17++[oV (iU G hx16)]++rT 3 c17++rF 5 c18) [8,69,70,71,72,73,74,75,76,77,78,79,80,81,82,83,84] [(8,vB false)] [] [] (lE h)
          ·exact rk hC ([oV (d4 G hx15)]++rT 3 c17++[oV (iU G hx16)]++rT 3 c17++rT 3 c18++[oN aK e.kids,oT c18,oT c18]) [8,69,70,71,72,73,74,75,76,77,78,79,80,81,82,83,84] [(8,vB (decide ((e.kids.length:Int)=0)))] [] [] (lE h)
        ·obtain rfl:=so h
         exact qr eW
       ·refine rq hC [] (fr 85 4) [(85,vB (decide (e.kind=3)))] [] [] (aS h (fun c19 h=> ?_) (fun c19 h=> ?_))
        ·refine vj h (fun x_=>aX [(8,vB x_)] [(0,E.cells [vI (wr (count+1))])] [0]) (fun j18 h=> ?_) (fun x20 h=> ?_)
         ·
          obtain⟨x19,hx19,h⟩:=bd h
          refine aR h (fun c20 h=> ?_) (fun c20 h=> ?_)
          ·exact rk hC ([oV (nC G hx19)]++rF 5 c20) [8,89,90,91,92,93,94,95,96,97,98] [(8,vB false)] [] [] (lE h)
          ·exact rk hC ([oV (nC G hx19)]++rT 3 c20++[oN aK e.kids,oT c20,oT c20]) [8,89,90,91,92,93,94,95,96,97,98] [(8,vB (decide ((e.kids.length:Int)=0)))] [] [] (lE h)
         ·obtain rfl:=so h
          exact qr eW
        ·refine vj h (fun x_=>aX [(1,vI depth),(2,vI deep),(3,V.ref 0 0),(4,V.tp (gW e)),(99,vB x_)] [(0,E.cells [vI (wr (count+1))])] [0]) (fun j21 h=> ?_) (fun x23 h=> ?_)
         ·
          obtain⟨x22,hx22,h⟩:=bd h
          refine aR h (fun c21 h=> ?_) (fun c21 h=> ?_)
          ·exact rk hC ([oV (aB4 G hx22)]++rF 3 c21++[oN aK e.kids,oF c21,oF c21]) (fr 99 11) [(99,vB (!decide ((e.kids.length:Int)=2)))] [] [] (lE h)
          ·exact rk hC ([oV (aB4 G hx22)]++rT 5 c21) (fr 99 11) [(99,vB true)] [] [] (lE h)
         ·refine aS h (fun c22 h=> ?_) (fun c22 h=> ?_)
          ·obtain rfl:=so h
           exact rq hC [] [8] [(8,vB false)] [] [] (qr eW)
          ·refine qk (vj h (fun x_=>aX [(8,vB x_.2)] [(0,E.cells [vI x_.1])] [0]) (fun j24 h=> ?_) ?_)
           ·
            obtain⟨x25,hx25,x26,hx26,h⟩:=dG h
            refine aR h (fun c23 h=> ?_) (fun c23 h=> ?_)
            ·exact rk hC ([.z (.row (eJ x25)),oQ (fL aK hx25 (cY x25)),oC [0] [] (ih x25 depth (wr (deep+1)) (wr (count+1)) hx26)]++rF 10 c23) [8,110,111,112,113,114,115,116,117,118,119,120,121,122,123,124,125,126,127,128,129] [(8,vB false)] [(0,sc [vI x26.2])] [(0,true)] (lE h)
            ·obtain⟨x27,hx27,x28,hx28,h⟩:=dG h
             exact rk hC ([.z (.row (eJ x25)),oQ (fL aK hx25 (cY x25)),oC [0] [] (ih x25 depth (wr (deep+1)) (wr (count+1)) hx26)]++rT 3 c23++[.z (.row (eJ x27)),oQ (fL aK hx27 (cY x27))]++rT 6 c23++[oC [0] [] (ih x27 depth (wr (deep+1)) x26.2 hx28),oT c23]) [8,110,111,112,113,114,115,116,117,118,119,120,121,122,123,124,125,126,127,128,129] [(8,vB x28.1)] [(0,sc [vI x28.2])] [(0,true),(0,true)] (lE h)
           ·rintro⟨x29,x30⟩ h
            obtain rfl:=so h
            exact qr eW
theorem S3{s}{depth}{r}(h:mF n s depth=some r):PQ G 178 [V.agg (cV s),vI depth] (vB r):=by
 unfold mF at h
 refine pq aN Tryz.func178 rfl fun w X hC=> ?_
 refine rq hC [.z (.b (true))] [2,4] [(2,V.tp (oP s))] [] [] (rq hC [.z (.nat 20)] [5] [(5,V.ref 20 0)] [(20,sc [vI 0])] [(20,true)] (vj h (fun x_=>aX [(4,vB x_.2)] [(20,E.cells [vI x_.1])] [20]) (fun j1 h=> ?_) ?_))
 ·
  obtain⟨x2,hx2,h⟩:=bd h
  refine aR h (fun c1 h=> ?_) (fun c1 h=> ?_)
  ·exact rk hC ([oV (bJ G hx2)]++rF 5 c1++sF 5) [4,6,7,8,9,10,11,12,13,14,15,16,17,18,19] [(4,vB false)] [] [] (lE h)
  ·obtain⟨x3,hx3,h⟩:=bd h
   refine aR h (fun c2 h=> ?_) (fun c2 h=> ?_)
   ·exact rk hC ([oV (bJ G hx2)]++rT 4 c1++[oV (nC G hx3),oT c1]++rF 5 c2) [4,6,7,8,9,10,11,12,13,14,15,16,17,18,19] [(4,vB false)] [] [] (lE h)
   ·obtain⟨x4,hx4,h⟩:=bd h
    exact rk hC ([oV (bJ G hx2)]++rT 4 c1++[oV (nC G hx3),oT c1]++rT 4 c2++[oC [20] [] (aAE G n s.value depth 1 0 hx4),oT c2]) [4,6,7,8,9,10,11,12,13,14,15,16,17,18,19] [(4,vB x4.1)] [(20,sc [vI x4.2])] [(20,true)] (lE h)
 ·rintro⟨x5,x6⟩ h
  obtain rfl:=so h
  exact qr eR
theorem qN(G:GS)(n:Nat)(s:Stmt)(c0__a1:Part){r:Bool}(h:cL n s c0__a1=some r):PQ G 177 [V.agg (cV s),V.tp (nN c0__a1)] (vB r):=by
 unfold cL at h
 refine pq aN Tryz.func177 rfl fun w X hC=> ?_
 refine rq hC [.z (.b (true))] [2,3] [(2,V.tp (oP s))] [] [] ?_
 obtain⟨x1,hx1,h⟩:=bd h
 obtain rfl:=so h
 exact rq hC [oN aD c0__a1.nest,oV (S3 G hx1)] (fr 3 7) [(3,vB (!x1))] [] [] (qr eR)
theorem S2(G:GS)(n:Nat)(n_a0:Int){r:Bool}(h:jV n n_a0=some r):PQ G 257 [vI n_a0] (vB r):=by
 unfold jV at h
 refine pq aN Tryz.func257 rfl fun w X hC=> ?_
 refine rq hC [] [2] [] [] [] ?_
 obtain⟨x1,hx1,h⟩:=bd h
 obtain rfl:=so h
 exact rq hC [oV (bJ G hx1)] (fr 2 4) [(2,vB (!x1))] [] [] (qr eR)
theorem aB3{point}{r}(h:qA n point=some r):PQ G 179 [vM rI point] (vB r):=by
 unfold qA at h
 refine pq aN Tryz.func179 rfl fun w X hC=> ?_
 refine rq hC [] [2] [] [] [] (vj h (fun x_=>aX [(2,vB x_)] [] []) (fun j1 h=> ?_) (fun x3 h=> ?_))
 ·
  refine aR h (fun c1 h=> ?_) (fun c1 h=> ?_)
  ·exact rk hC ([oN rI point]++rF 4 c1) (fr 2 9) [(2,vB false)] [] [] (lE h)
  ·obtain⟨x2,hx2,h⟩:=bd h
   exact rk hC [oN rI point,oT c1,oT c1,oV (dV G n point 257 (fun q0=>jV n q0) (fun q0 r h=>S2 G n q0 h) hx2),oT c1,oT c1] (fr 2 9) [(2,vB (!x2))] [] [] (lE h)
 ·obtain rfl:=so h
  exact qr eR
theorem X3(G:GS): ∀(n:Nat) (e:Expr) {r:(List Access)} (h:i_reads n e=some r),VQ G 259 [] [V.agg (dJ e)] (ms 0 1 2 aU r) [ar 77 1 2 aU r]:=by
 intro n
 induction n with
 |zero=>intro e r h;rw [i_reads.eq_def] at h;cases h
 |succ n ih=>
  intro e r h
  rw [i_reads.eq_def] at h;dsimp only at h
  refine vq aN Tryz.func259 rfl fun w X β0 hC hg=> ?_
  refine rq hC [.z (.b (true))] [1,2] [(1,V.tp (gW e))] [] [] (qs (rq hC [] [6,7,8] [(8,vB (decide (e.kind=3)))] [] [] (aS h (fun c1 h=> ?_) (fun c1 h=> ?_))))
  ·obtain rfl:=so h
   exact rq hC [.z (.int 1),.z (.nat 20)] [2,9,10,11] [(2,ms 20 1 2 aU [e.read])] [(20,some (ar 77 1 2 aU [e.read]))] [(20,true)] (qw (lk hC [.ren 2 20 0] [2] [(2,ms 0 1 2 aU [e.read])] [(0,some (ar 77 1 2 aU [e.read])),(20,none)] [(0,true)]) (qr eW))
  ·refine qk (rq hC [] [3] [(3,V.t T.nilS)] [] [] (qs (rq hC [oN aK e.kids] (fr 12 4) [(13,vM aK e.kids),(14,vI (e.kids.length:Int)),(15,vI 0)] [] [] (qb (qw (lk hC [.grow 3 20 77] [3] [(3,ms 20 1 2 aU [])] [(20,some (ar 77 1 2 aU []))] [(20,true)]) ?_)))))
   refine bA (γ:=Nat) h (fun x_ g_=>aX [(3,ms 20 g_ 2 aU x_.1),(13,vM aK e.kids),(14,vI (e.kids.length:Int)),(15,vI x_.2)] [(20,ar 77 g_ 2 aU x_.1)] [20]) 1 (lS) ?_
   rintro again4 ⟨x1,x2⟩ g3 h
   refine rq hC [] [16] [(16,vB (decide (x2<(e.kids.length:Int))))] [] [] (qs (aS h (fun c2 h=> ?_) (fun c2 h=> ?_)))
   ·refine qk (qs (qb ?_))
    obtain⟨x5,hx5,h⟩:=bd h
    refine rq hC [.z (.row (eJ x5)),.z (.nat 21),oQ (fL aK hx5 (cY x5))] [5,17,18] [(5,V.ref 21 0)] [(21,some (E.cells (dJ x5)))] [(21,true)] ?_
    obtain⟨x6,hx6,x7,hx7,h⟩:=dG h
    exact rk hC [oC [] [22] (ih x5 hx6),.z (.at 2),.z (.fz 22 [21] []),oA (aO aU hx7),oQ (bW (r:=aU) 2 oU x1),oQ (bW (r:=aU) 2 oU x6)] [3,19,20,21,22] [(3,ms 20 (g3+1) 2 aU x7)] [(22,none),(20,some (ar 77 (g3+1) 2 aU x7))] [(22,true)] (rk hC [] [15,23] [(15,vI (wr (x2+1)))] [] [] ⟨(x7,wr (x2+1)),(g3+1),h,lS⟩)
   ·obtain rfl:=so h
    exact cU (rq hC [] [2,24] [(2,ms 20 g3 2 aU x1)] [] [] (qw (lk hC [.ren 2 20 0] [2] [(2,ms 0 1 2 aU x1)] [(0,some (ar 77 1 2 aU x1)),(20,none)] [(0,true)]) (qr eW)))
theorem tU{a}{r}(h:kS n a=some r):PQ G 261 [V.agg [vS a.name,vM rI a.dims]] (vI r):=by
 unfold kS at h
 refine pq aN Tryz.func261 rfl fun w X hC=> ?_
 refine rq hC [.z (.b (true))] [1,2] [(1,V.tp [T.str a.name,T.sl (List.map rI a.dims)])] [] [] (rq hC [] [3] [(3,vI 1)] [] [] (qs (rq hC [oN rI a.dims] (fr 6 4) [(7,vM rI a.dims),(8,vI (a.dims.length:Int)),(9,vI 0)] [] [] (qb (jZ h (fun x_=>aX [(3,vI x_.1),(7,vM rI a.dims),(8,vI (a.dims.length:Int)),(9,vI x_.2)] [] []) lS ?_)))))
 rintro again3 ⟨x1,x2⟩ h
 refine rq hC [] [10] [(10,vB (decide (x2<(a.dims.length:Int))))] [] [] (qs (aS h (fun c1 h=> ?_) (fun c1 h=> ?_)))
 ·refine qk (qs (qb ?_))
  obtain⟨x4,hx4,h⟩:=bd h
  exact rq hC [oR rI hx4] [5,11,12] [(5,vI x4)] [] [] (rk hC [] [3,13,14,15] [(3,vI (wr (x1*x4)))] [] [] (rk hC [] [9,16] [(9,vI (wr (x2+1)))] [] [] (lE h)))
 ·obtain rfl:=so h
  exact cU (rq hC [] [2,17] [(2,vI x1)] [] [] (qr eR))
theorem dP{p}{a}{point}{r}(h:cM n p a point=some r):PQ G 230 [V.agg (bD p),V.agg (cT a),vM rI point] (vI r):=by
 unfold cM at h
 refine pq aN Tryz.func230 rfl fun w X hC=> ?_
 refine rq hC [.z (.b (true)),.z (.b (true))] [3,4,6] [(3,V.tp (bM p)),(4,V.tp (d6 a))] [] [] (rq hC [] [7] [(7,vI 0)] [] [] (qs (rq hC [oN aH p.arrays] (fr 14 4) [(15,vM aH p.arrays),(16,vI (p.arrays.length:Int)),(17,vI 0)] [] [] (qb (jZ h (fun x_=>aX [(2,vM rI point),(4,V.tp (d6 a)),(7,vI x_.1),(15,vM aH p.arrays),(16,vI (p.arrays.length:Int)),(17,vI x_.2)] [] []) lS ?_)))))
 rintro again3 ⟨x1,x2⟩ h
 refine rq hC [] [18] [(18,vB (decide (x2<(p.arrays.length:Int))))] [] [] (qs (aS h (fun c1 h=> ?_) (fun c1 h=> ?_)))
 ·refine qk (qs (qb ?_))
  obtain⟨x4,hx4,h⟩:=bd h
  refine rq hC [oR aH hx4,.z (.nat 20)] [9,19,20] [(9,V.ref 20 0)] [(20,sc [vS x4.name,vM rI x4.dims])] [(20,true)] (qs (rq hC [] (fr 21 5) [(25,vB (!decide (x4.name=a.array)))] [] [] (aS h (fun c2 h=> ?_) (fun c2 h=> ?_))))
  ·obtain⟨x5,hx5,h⟩:=bd h
   exact rq hC [oV (tU G hx5)] [7,26,27,28,29] [(7,vI (wr (x1+x5)))] [] [] (cU (rk hC [] [17,70] [(17,vI (wr (x2+1)))] [] [] (lE h)))
  ·refine qk (qs (rq hC [oN aB a.subs,oN rI x4.dims] (fr 30 7) [(36,vB (!decide ((a.subs.length:Int)=(x4.dims.length:Int))))] [] [] (aS h (fun c3 h=> ?_) (fun c3 h=> ?_))))
   ·obtain rfl:=so h
    exact rq hC [] [6] [(6,vI (-1))] [] [] (qr eR)
   ·refine qk (rq hC [] [10] [(10,vI 0)] [] [] (qs (rq hC [oN aB a.subs] (fr 37 4) [(38,vM aB a.subs),(39,vI (a.subs.length:Int)),(40,vI 0)] [] [] (qb (jZ h (fun x_=>aX [(2,vM rI point),(7,vI x1),(9,V.ref 20 0),(10,vI x_.1),(38,vM aB a.subs),(39,vI (a.subs.length:Int)),(40,vI x_.2)] [(20,E.cells [vS x4.name,vM rI x4.dims])] [20]) lS ?_)))))
    rintro again8 ⟨x6,x7⟩ h
    refine rq hC [] [41] [(41,vB (decide (x7<(a.subs.length:Int))))] [] [] (qs (aS h (fun c4 h=> ?_) (fun c4 h=> ?_)))
    ·refine qk (qs (qb ?_))
     obtain⟨x9,hx9,h⟩:=bd h
     refine rq hC [oR aB hx9,.z (.nat 21)] [11,12,42,43,44] [(11,vI x7),(12,V.ref 21 0)] [(21,some (E.cells (aT x9)))] [(21,true)] ?_
     obtain⟨x10,hx10,h⟩:=bd h
     refine rq hC [oV (eY G hx10)] [13,45,46,47] [(13,vI x10)] [] [] (qs ?_)
     obtain⟨x11,hx11,x12,hx12,h⟩:=dG h
     refine rq hC [oR rI hx11,oV (bJ G hx12)] (fr 48 9) [(56,vB (!x12))] [] [] (aS h (fun c5 h=> ?_) (fun c5 h=> ?_))
     ·obtain rfl:=so h
      exact rq hC [] [6] [(6,vI (-1))] [] [] (qr eR)
     ·exact qk (rk hC [oR rI hx11] [10,57,58,59,60,61,62,63,64,65] [(10,vI (wr ((wr (x6*x11))+x10)))] [] [] (rk hC [] [40,66] [(40,vI (wr (x7+1)))] [] [] (lE h)))
    ·obtain rfl:=so h
     exact cU (rq hC [] [6,67,68,69] [(6,vI (wr (x1+x6)))] [] [] (qr eR))
 ·obtain rfl:=so h
  exact cU (rq hC [] [6] [(6,vI (-1))] [] [] (qr eR))
theorem tS(G:GS)(n:Nat)(a:Access)(c0__a1:Prog)(c1__a2:List Int){r:Bool}(h:dO n a c0__a1 c1__a2=some r):PQ G 260 [V.agg (cT a),V.tp (bM c0__a1),V.tp [T.sl (List.map rI c1__a2)]] (vB r):=by
 unfold dO at h
 refine pq aN Tryz.func260 rfl fun w X hC=> ?_
 refine rq hC [.z (.b (true))] [3,4] [(3,V.tp (d6 a))] [] [] ?_
 obtain⟨x1,hx1,h⟩:=bd h
 obtain rfl:=so h
 exact rq hC [oV (dP G hx1)] (fr 4 6) [(4,vB (decide (x1<0)))] [] [] (qr eR)
theorem qK(G:GS)(n:Nat)(s:List Access)(fF:FuncId)(fC0:List T)(fC1:List T)(f:Access→Option Bool)(hf: ∀(q0:Access) r,f q0=some r→PQ G fF [V.agg (cT q0),V.tp fC0,V.tp fC1] (vB r)){r:Int}(h:gA n s f=some r):PQ G 315 [vM aU s,V.fn fF [V.tp fC0,V.tp fC1]] (vI r):=by
 unfold gA at h
 refine pq aN Tryz.func315 rfl fun w X hC=> ?_
 refine rq hC [] [4] [] [] [] (qs (rq hC [oN aU s] [6,7,8] [(7,vI (s.length:Int)),(8,vI 0)] [] [] (qb (jZ h (fun x_=>aX [(0,vM aU s),(1,V.fn fF [V.tp fC0,V.tp fC1]),(7,vI (s.length:Int)),(8,vI x_)] [] []) lS ?_))))
 rintro again2 x1 h
 refine rq hC [] [9] [(9,vB (decide (x1<(s.length:Int))))] [] [] (qs (aS h (fun c1 h=> ?_) (fun c1 h=> ?_)))
 ·refine qk (qs (qb (rq hC [] [5,10] [(5,vI x1)] [] [] ?_)))
  obtain⟨x3,hx3,x4,hx4,h⟩:=dG h
  refine rq hC [oR aU hx3,oV (hf x3 _ hx4)] (fr 11 6) [(16,vB x4)] [] [] (aS h (fun c2 h=> ?_) (fun c2 h=> ?_))
  ·obtain rfl:=so h
   exact rq hC [] [4,17] [(4,vI x1)] [] [] (qr eR)
  ·exact qk (rk hC [] [8,18] [(8,vI (wr (x1+1)))] [] [] (lE h))
 ·obtain rfl:=so h
  exact cU (rq hC [] [4] [(4,vI (-1))] [] [] (qr eR))
theorem oI(G:GS)(n:Nat)(s:List Access)(fF:FuncId)(fC0:List T)(fC1:List T)(f:Access→Option Bool)(hf: ∀(q0:Access) r,f q0=some r→PQ G fF [V.agg (cT q0),V.tp fC0,V.tp fC1] (vB r)){r:Bool}(h:dI n s f=some r):PQ G 258 [vM aU s,V.fn fF [V.tp fC0,V.tp fC1]] (vB r):=by
 unfold dI at h
 refine pq aN Tryz.func258 rfl fun w X hC=> ?_
 refine rq hC [] [4] [] [] [] ?_
 obtain⟨x1,hx1,h⟩:=bd h
 obtain rfl:=so h
 exact rq hC [oV (qK G n s fF fC0 fC1 f hf hx1)] (fr 4 5) [(4,vB (decide ((0:Int)≤x1)))] [] [] (qr eR)
theorem wL{p}{s}{point}{r}(h:fW n p s point=some r):PQ G 180 [V.agg (bD p),V.agg (cV s),vM rI point] (vB r):=by
 unfold fW at h
 refine pq aN Tryz.func180 rfl fun w X hC=> ?_
 refine rq hC [.z (.b (true)),.z (.b (true)),.z (.b (true))] (fr 3 4) [(3,V.tp (bM p)),(4,V.tp (oP s)),(5,V.tp [T.sl (List.map rI point)])] [] [] (vj h (fun x_=>aX [(6,vB x_)] [] []) (fun j1 h=> ?_) (fun x5 h=> ?_))
 ·
  obtain⟨x2,hx2,h⟩:=bd h
  refine aR h (fun c1 h=> ?_) (fun c1 h=> ?_)
  ·exact rk hC ([oV (dP G hx2)]++rF 7 c1) (fr 6 15) [(6,vB false)] [] [] (lE h)
  ·obtain⟨x3,hx3,x4,hx4,h⟩:=dG h
   exact rk hC ([oV (dP G hx2)]++rT 3 c1++[oC [] [20] (X3 G n s.value hx3),oT c1,oT c1,.z (.b (true)),oV (oI G n x3 260 (bM p) [T.sl (List.map rI point)] (fun q0=>dO n q0 p point) (fun q0 r h=>tS G n q0 p point h) hx4),oT c1,oT c1]) (fr 6 15) [(6,vB (!x4))] [(20,some (ar 77 1 2 aU x3))] [(20,true)] (lE h)
 ·obtain rfl:=so h
  exact qr eR
theorem sE(G:GS)(n:Nat)(s:List Stmt)(fF:FuncId)(fC0:List T)(f:Stmt→Option Bool)(hf: ∀(q0:Stmt) r,f q0=some r→PQ G fF [V.agg (cV q0),V.tp fC0] (vB r)){r:Int}(h:iM n s f=some r):PQ G 254 [vM aI s,V.fn fF [V.tp fC0]] (vI r):=by
 unfold iM at h
 refine pq aN Tryz.func254 rfl fun w X hC=> ?_
 refine rq hC [] [4] [] [] [] (qs (rq hC [oN aI s] [6,7,8] [(7,vI (s.length:Int)),(8,vI 0)] [] [] (qb (jZ h (fun x_=>aX [(0,vM aI s),(1,V.fn fF [V.tp fC0]),(7,vI (s.length:Int)),(8,vI x_)] [] []) lS ?_))))
 rintro again2 x1 h
 refine rq hC [] [9] [(9,vB (decide (x1<(s.length:Int))))] [] [] (qs (aS h (fun c1 h=> ?_) (fun c1 h=> ?_)))
 ·refine qk (qs (qb (rq hC [] [5,10] [(5,vI x1)] [] [] ?_)))
  obtain⟨x3,hx3,x4,hx4,h⟩:=dG h
  refine rq hC [oR aI hx3,oV (hf x3 _ hx4)] (fr 11 6) [(16,vB x4)] [] [] (aS h (fun c2 h=> ?_) (fun c2 h=> ?_))
  ·obtain rfl:=so h
   exact rq hC [] [4,17] [(4,vI x1)] [] [] (qr eR)
  ·exact qk (rk hC [] [8,18] [(8,vI (wr (x1+1)))] [] [] (lE h))
 ·obtain rfl:=so h
  exact cU (rq hC [] [4] [(4,vI (-1))] [] [] (qr eR))
theorem pE(G:GS)(n:Nat)(s:List Stmt)(fF:FuncId)(fC0:List T)(f:Stmt→Option Bool)(hf: ∀(q0:Stmt) r,f q0=some r→PQ G fF [V.agg (cV q0),V.tp fC0] (vB r)){r:Bool}(h:d5 n s f=some r):PQ G 176 [vM aI s,V.fn fF [V.tp fC0]] (vB r):=by
 unfold d5 at h
 refine pq aN Tryz.func176 rfl fun w X hC=> ?_
 refine rq hC [] [4] [] [] [] ?_
 obtain⟨x1,hx1,h⟩:=bd h
 obtain rfl:=so h
 exact rq hC [oV (sE G n s fF fC0 f hf hx1)] (fr 4 5) [(4,vB (decide ((0:Int)≤x1)))] [] [] (qr eR)
theorem gO{p}{r}(h:b7 n p=some r):VQ G 79 [] [V.agg (bD p)] (V.tup [ms 0 1 3 aP r.1,vB r.2]) [ar 112 1 3 aP r.1]:=by
 unfold b7 at h
 refine vq aN Tryz.func79 rfl fun w X β0 hC hg=> ?_
 refine rq hC [.z (.b (true))] [1,2,3] [(1,V.tp (bM p))] [] [] (qs (vj h (fun x_=>aX [(1,V.tp (bM p)),(22,vB x_)] [] []) (fun j1 h=> ?_) (fun x3 h=> ?_)))
 ·
  obtain⟨x2,hx2,h⟩:=bd h
  refine aR h (fun c1 h=> ?_) (fun c1 h=> ?_)
  ·exact rk hC ([oV (yD G hx2)]++rF 3 c1++[oN aC p.parts,oF c1,oF c1]) (fr 13 10) [(22,vB (decide ((4:Int)<(p.parts.length:Int))))] [] [] (lE h)
  ·exact rk hC ([oV (yD G hx2)]++rT 5 c1) (fr 13 10) [(22,vB true)] [] [] (lE h)
 ·refine aS h (fun c2 h=> ?_) (fun c2 h=> ?_)
  ·obtain rfl:=so h
   exact rq hC [] [2,3] [(2,V.t T.nilS),(3,vB false)] [] [] (qw (lk hC [.grow 2 0 112] [2] [(2,ms 0 1 3 aP [])] [(0,some (ar 112 1 3 aP []))] [(0,true)]) (qr eW))
  ·refine qk (rq hC [] [4] [(4,V.t T.nilS)] [] [] (qs (rq hC [oN aC p.parts] (fr 23 4) [(24,vM aC p.parts),(25,vI (p.parts.length:Int)),(26,vI 0)] [] [] (qb (qw (lk hC [.grow 4 20 112] [4] [(4,ms 20 1 3 aP [])] [(20,some (ar 112 1 3 aP []))] [(20,true)]) ?_)))))
   refine bA (γ:=Nat) h (fun x_ g_=>aX [(1,V.tp (bM p)),(4,ms 20 g_ 3 aP x_.1),(24,vM aC p.parts),(25,vI (p.parts.length:Int)),(26,vI x_.2)] [(20,ar 112 g_ 3 aP x_.1)] [20]) 1 (lS) ?_
   rintro again7 ⟨x4,x5⟩ g6 h
   refine rq hC [] [27] [(27,vB (decide (x5<(p.parts.length:Int))))] [] [] (qs (aS h (fun c3 h=> ?_) (fun c3 h=> ?_)))
   ·refine qk (qs (qb ?_))
    obtain⟨x8,hx8,h⟩:=bd h
    refine rq hC [oR aC hx8,.z (.nat 21),.z (.at 0),.z (.fp 21 [6])] [5,6,28,29,30] [(5,vI x5),(6,V.tp (nN x8))] [(21,none)] [(21,true)] ?_
    obtain⟨x9,hx9,h⟩:=bd h
    refine rq hC [oC [] [22] (P8 G hx9)] [7,8,31,32,33,34,35,36] [(7,ms 22 1 1 (rL rI) x9.1),(8,vB x9.2)] [(22,some (ar 48 1 1 (rL rI) x9.1))] [(22,true)] (qs (vj h (fun x_=>aX [(1,V.tp (bM p)),(4,ms 20 g6 3 aP x4),(5,vI x5),(6,V.tp (nN x8)),(7,ms 22 1 1 (rL rI) x9.1),(24,vM aC p.parts),(25,vI (p.parts.length:Int)),(26,vI x5),(51,vB x_)] [(20,ar 112 g6 3 aP x4),(22,ar 48 1 1 (rL rI) x9.1)] [20,21,22]) (fun j10 h=> ?_) (fun x13 h=> ?_)))
    ·
     refine aR h (fun c4 h=> ?_) (fun c4 h=> ?_)
     ·obtain⟨x11,hx11,h⟩:=bd h
      refine aR h (fun c5 h=> ?_) (fun c5 h=> ?_)
      ·obtain⟨x12,hx12,h⟩:=bd h
       exact rk hC (rF 3 c4++[oN aI x8.body,oF c4,oV (bJ G hx11),oF c4,oF c4]++rF 4 c5++[oV (pE G n x8.body 177 (nN x8) (fun q0=>cL n q0 x8) (fun q0 r h=>qN G n q0 x8 h) hx12),oF c5]) (fr 37 15) [(51,vB x12)] [] [] (lE h)
      ·exact rk hC (rF 3 c4++[oN aI x8.body,oF c4,oV (bJ G hx11),oF c4,oF c4]++rT 5 c5) (fr 37 15) [(51,vB true)] [] [] (lE h)
     ·exact rk hC (rT 6 c4++sT 5) (fr 37 15) [(51,vB true)] [] [] (lE h)
    ·refine aS h (fun c6 h=> ?_) (fun c6 h=> ?_)
     ·obtain rfl:=so h
      exact rq hC [] [2,3] [(2,V.t T.nilS),(3,vB false)] [] [] (qw (lk hC [.grow 2 0 112] [2] [(2,ms 0 1 3 aP [])] [(0,some (ar 112 1 3 aP []))] [(0,true)]) (qr eW))
     ·refine qk (rq hC [oN (rL rI) x9.1] [52,53,54] [(52,ms 22 1 1 (rL rI) x9.1),(53,vI (x9.1.length:Int)),(54,vI 0)] [] [] (qb (bA (γ:=Nat) h (fun x_ g_=>aX [(1,V.tp (bM p)),(4,ms 20 g_ 3 aP x_.1),(5,vI x5),(6,V.tp (nN x8)),(24,vM aC p.parts),(25,vI (p.parts.length:Int)),(26,vI x5),(52,ms 22 1 1 (rL rI) x9.1),(53,vI (x9.1.length:Int)),(54,vI x_.2)] [(20,ar 112 g_ 3 aP x_.1),(22,ar 48 1 1 (rL rI) x9.1)] [20,21,22]) g6 (lS) ?_)))
      rintro again17 ⟨x14,x15⟩ g16 h
      refine rq hC [] [55] [(55,vB (decide (x15<(x9.1.length:Int))))] [] [] (qs (aS h (fun c7 h=> ?_) (fun c7 h=> ?_)))
      ·refine qk (qs (qb ?_))
       obtain⟨x18,hx18,h⟩:=bd h
       refine rq hC [oQ (mP (rL rI) hx18),oX (rL rI) hx18] [10,56,57] [(10,vM rI x18)] [] [] (qs ?_)
       obtain⟨x19,hx19,h⟩:=bd h
       refine rq hC [oV (aB3 G hx19)] [58,59,60] [(60,vB (!x19))] [] [] (aS h (fun c8 h=> ?_) (fun c8 h=> ?_))
       ·obtain rfl:=so h
        exact rq hC [] [2,3] [(2,V.t T.nilS),(3,vB false)] [] [] (qw (lk hC [.grow 2 0 112] [2] [(2,ms 0 1 3 aP [])] [(0,some (ar 112 1 3 aP []))] [(0,true)]) (qr eW))
       ·refine qk (rq hC [oN aI x8.body] (fr 61 4) [(62,vM aI x8.body),(63,vI (x8.body.length:Int)),(64,vI 0)] [] [] (qb (bA (γ:=Nat) h (fun x_ g_=>aX [(1,V.tp (bM p)),(4,ms 20 g_ 3 aP x_.1),(5,vI x5),(6,V.tp (nN x8)),(10,vM rI x18),(24,vM aC p.parts),(25,vI (p.parts.length:Int)),(26,vI x5),(52,ms 22 1 1 (rL rI) x9.1),(53,vI (x9.1.length:Int)),(54,vI x15),(62,vM aI x8.body),(63,vI (x8.body.length:Int)),(64,vI x_.2)] [(20,ar 112 g_ 3 aP x_.1),(22,ar 48 1 1 (rL rI) x9.1)] [20,21,22]) g16 (lS) ?_)))
        rintro again23 ⟨x20,x21⟩ g22 h
        refine rq hC [] [65] [(65,vB (decide (x21<(x8.body.length:Int))))] [] [] (qs (aS h (fun c9 h=> ?_) (fun c9 h=> ?_)))
        ·refine qk (qs (qb ?_))
         obtain⟨x24,hx24,h⟩:=bd h
         refine rq hC [oR aI hx24,.z (.nat 23)] [11,12,66,67,68] [(11,vI x21),(12,V.ref 23 0)] [(23,some (E.cells (cV x24)))] [(23,true)] (qs ?_)
         obtain⟨x25,hx25,h⟩:=bd h
         refine rq hC [oV (wL G hx25)] (fr 69 5) [(73,vB (!x25))] [] [] (aS h (fun c10 h=> ?_) (fun c10 h=> ?_))
         ·obtain rfl:=so h
          exact rq hC [] [2,3] [(2,V.t T.nilS),(3,vB false)] [] [] (qw (lk hC [.grow 2 0 112] [2] [(2,ms 0 1 3 aP [])] [(0,some (ar 112 1 3 aP []))] [(0,true)]) (qr eW))
         ·refine qk ?_
          obtain⟨x26,hx26,x27,hx27,h⟩:=dG h
          exact rk hC [oC [] [24] (G.clone x18 hx26),.z (.at 4),.z (.fz 24 [78] []),.z (.int 0),oA (aO aP hx27),oQ (bW (r:=aP) 3 uE x20),oQ (bW (r:=aP) 3 uE [(⟨x5,x21,x26⟩:Inst)])] [4,74,75,76,77,78,79,80,81] [(4,ms 20 (g22+1) 3 aP x27)] [(24,none),(20,some (ar 112 (g22+1) 3 aP x27))] [(24,true)] (rk hC [] [64,82] [(64,vI (wr (x21+1)))] [] [] ⟨(x27,wr (x21+1)),(g22+1),h,lS⟩)
        ·exact cU (rk hC [] [54,83] [(54,vI (wr (x15+1)))] [] [] ⟨(x20,wr (x15+1)),g22,h,lS⟩)
      ·exact cU (rk hC [] [26,84] [(26,vI (wr (x5+1)))] [] [] ⟨(x14,wr (x5+1)),g16,h,lS⟩)
   ·obtain rfl:=so h
    exact cU (rq hC [oN aP x4] [2,3,85,86,87,88] [(2,ms 20 g6 3 aP x4),(3,vB (decide ((x4.length:Int)≤120)))] [] [] (qw (lk hC [.ren 2 20 0] [2] [(2,ms 0 1 3 aP x4)] [(0,some (ar 112 1 3 aP x4)),(20,none)] [(0,true)]) (qr eW)))
theorem bF{p}{r}(h:cZ n p=some r):PQ G 19 [V.agg (bD p)] (vB r):=by
 unfold cZ at h
 refine pq aN Tryz.func19 rfl fun w X hC=> ?_
 refine rq hC [.z (.b (true))] [1,2] [(1,V.tp (bM p))] [] [] ?_
 obtain⟨x1,hx1,h⟩:=bd h
 obtain rfl:=so h
 exact rq hC [oC [] [20] (gO G hx1)] (fr 3 7) [(4,vB x1.2)] [(20,some (ar 112 1 3 aP x1.1))] [(20,true)] (rq hC [] [2,10] [(2,vB x1.2)] [] [] (qr eR))
theorem qH{x}{r}(h:fQ n x=some r):PQ G 384 [V.agg (aT x)] (V.agg (aT r)):=by
 unfold fQ at h
 refine pq aN Tryz.func384 rfl fun w X hC=> ?_
 refine rq hC [.z (.nat 20),.z (.nat 21)] [1,2] [(1,V.ref 20 0),(2,V.ref 21 0)] [(20,some (E.cells (aT x))),(21,sc [V.t T.nilS,vI 0])] [(20,true),(21,true)] ?_
 obtain⟨x1,hx1,h⟩:=bd h
 obtain rfl:=so h
 exact rq hC [.z (.nat 22),oA (aO rI hx1),oQ (bW (r:=rI) 1 (fun _=>rfl) []),oQ (bW (r:=rI) 1 (fun _=>rfl) x.coefs)] (fr 3 5) [] [(22,some (ar 3 2 1 rI x1)),(20,sc [ms 22 2 1 rI x1,vI x.const])] [(22,true)] (rq hC [.z (.at 2),.z (.fz 22 [] [20])] [8] [] [(20,sc [vM rI x1,vI x.const]),(22,none),(21,sc [vM rI x1,vI x.const])] [] (qr eR))
theorem iF{list}{r}(h:cP n list=some r):VQ G 368 [] [vM aB list] (ms 0 1 2 aB r) [ar 79 1 2 aB r]:=by
 unfold cP at h
 refine vq aN Tryz.func368 rfl fun w X β0 hC hg=> ?_
 refine rq hC [] [2] [] [] [] (rq hC [.z (.nat 20)] [3,6] [(3,ms 20 1 2 aB [])] [(20,some (ar 79 1 2 aB []))] [(20,true)] (qs (rq hC [oN aB list] [7,8,9] [(7,vM aB list),(8,vI (list.length:Int)),(9,vI 0)] [] [] (qb (bA (γ:=Nat) h (fun x_ g_=>aX [(3,ms 20 g_ 2 aB x_.1),(7,vM aB list),(8,vI (list.length:Int)),(9,vI x_.2)] [(20,ar 79 g_ 2 aB x_.1)] [20]) 1 (lS) ?_)))))
 rintro again4 ⟨x1,x2⟩ g3 h
 refine rq hC [] [10] [(10,vB (decide (x2<(list.length:Int))))] [] [] (qs (aS h (fun c1 h=> ?_) (fun c1 h=> ?_)))
 ·refine qk (qs (qb ?_))
  obtain⟨x5,hx5,h⟩:=bd h
  refine rq hC [oR aB hx5,.z (.nat 21)] [5,11,12] [(5,V.ref 21 0)] [(21,some (E.cells (aT x5)))] [(21,true)] ?_
  obtain⟨x6,hx6,x7,hx7,h⟩:=dG h
  exact rk hC [oV (qH G hx6),.z (.int 0),oA (aO aB hx7),oQ (bW (r:=aB) 2 bC x1),oQ (bW (r:=aB) 2 bC [x6])] [3,13,14,15,16,17] [(3,ms 20 (g3+1) 2 aB x7)] [(20,some (ar 79 (g3+1) 2 aB x7))] [] (rk hC [] [9,18] [(9,vI (wr (x2+1)))] [] [] ⟨(x7,wr (x2+1)),(g3+1),h,lS⟩)
 ·obtain rfl:=so h
  exact cU (rq hC [] [2,19] [(2,ms 20 g3 2 aB x1)] [] [] (qw (lk hC [.ren 2 20 0] [2] [(2,ms 0 1 2 aB x1)] [(0,some (ar 79 1 2 aB x1)),(20,none)] [(0,true)]) (qr eW)))
theorem O6{x}{r}(h:mX n x=some r):PQ G 339 [V.agg (lB x)] (V.agg (lB r)):=by
 unfold mX at h
 refine pq aN Tryz.func339 rfl fun w X hC=> ?_
 refine rq hC [.z (.nat 20),.z (.nat 21)] [1,2] [(1,V.ref 20 0),(2,V.ref 21 0)] [(20,some (E.cells (lB x))),(21,sc [V.t T.nilS,V.t T.nilS])] [(20,true),(21,true)] ?_
 obtain⟨x1,hx1,h⟩:=bd h
 refine rq hC [oC [] [22] (iF G hx1)] (fr 3 4) [] [(22,some (ar 79 1 2 aB x1)),(20,sc [ms 22 1 2 aB x1,vM aB x.hi])] [(22,true)] ?_
 obtain⟨x2,hx2,h⟩:=bd h
 obtain rfl:=so h
 exact rq hC [oC [] [23] (iF G hx2)] (fr 7 4) [] [(23,some (ar 79 1 2 aB x2)),(20,sc [ms 22 1 2 aB x1,ms 23 1 2 aB x2])] [(23,true)] (rq hC [.z (.at 2),.z (.fz 22 [] [20]),.z (.at 2),.z (.fz 23 [] [20])] [11] [] [(20,sc [vM aB x1,vM aB x2]),(22,none),(23,none),(21,sc [vM aB x1,vM aB x2])] [] (qr eR))
theorem wC{list}{r}(h:fP n list=some r):VQ G 297 [] [vM aD list] (ms 0 1 2 aD r) [ar 123 1 2 aD r]:=by
 unfold fP at h
 refine vq aN Tryz.func297 rfl fun w X β0 hC hg=> ?_
 refine rq hC [] [2] [] [] [] (rq hC [.z (.nat 20)] [3,6] [(3,ms 20 1 2 aD [])] [(20,some (ar 123 1 2 aD []))] [(20,true)] (qs (rq hC [oN aD list] [7,8,9] [(7,vM aD list),(8,vI (list.length:Int)),(9,vI 0)] [] [] (qb (bA (γ:=Nat) h (fun x_ g_=>aX [(3,ms 20 g_ 2 aD x_.1),(7,vM aD list),(8,vI (list.length:Int)),(9,vI x_.2)] [(20,ar 123 g_ 2 aD x_.1)] [20]) 1 (lS) ?_)))))
 rintro again4 ⟨x1,x2⟩ g3 h
 refine rq hC [] [10] [(10,vB (decide (x2<(list.length:Int))))] [] [] (qs (aS h (fun c1 h=> ?_) (fun c1 h=> ?_)))
 ·refine qk (qs (qb ?_))
  obtain⟨x5,hx5,h⟩:=bd h
  refine rq hC [oR aD hx5,.z (.nat 21)] [5,11,12] [(5,V.ref 21 0)] [(21,some (E.cells (lB x5)))] [(21,true)] ?_
  obtain⟨x6,hx6,x7,hx7,h⟩:=dG h
  exact rk hC [oV (O6 G hx6),.z (.int 0),oA (aO aD hx7),oQ (bW (r:=aD) 2 dA x1),oQ (bW (r:=aD) 2 dA [x6])] [3,13,14,15,16,17] [(3,ms 20 (g3+1) 2 aD x7)] [(20,some (ar 123 (g3+1) 2 aD x7))] [] (rk hC [] [9,18] [(9,vI (wr (x2+1)))] [] [] ⟨(x7,wr (x2+1)),(g3+1),h,lS⟩)
 ·obtain rfl:=so h
  exact cU (rq hC [] [2,19] [(2,ms 20 g3 2 aD x1)] [] [] (qw (lk hC [.ren 2 20 0] [2] [(2,ms 0 1 2 aD x1)] [(0,some (ar 123 1 2 aD x1)),(20,none)] [(0,true)]) (qr eW)))
theorem qI{x}{r}(h:fR n x=some r):PQ G 369 [V.agg (cT x)] (V.agg (cT r)):=by
 unfold fR at h
 refine pq aN Tryz.func369 rfl fun w X hC=> ?_
 refine rq hC [.z (.nat 20),.z (.nat 21)] [1,2] [(1,V.ref 20 0),(2,V.ref 21 0)] [(20,some (E.cells (cT x))),(21,sc [vS [],V.t T.nilS])] [(20,true),(21,true)] ?_
 obtain⟨x1,hx1,h⟩:=bd h
 obtain rfl:=so h
 exact rq hC [oC [] [22] (iF G hx1)] (fr 3 4) [] [(22,some (ar 79 1 2 aB x1)),(20,sc [vS x.array,ms 22 1 2 aB x1])] [(22,true)] (rq hC [.z (.at 2),.z (.fz 22 [] [20])] [7] [] [(20,sc [vS x.array,vM aB x1]),(22,none),(21,sc [vS x.array,vM aB x1])] [] (qr eR))
theorem wD(G:GS)(n:Nat)(self:Expr→Option Expr)(hself: ∀(q0:Expr) {r:Expr},self q0=some r→PQ G 370 [V.agg (dJ q0)] (V.agg (dJ r)))(list:List Expr){r:(List Expr)}(h:iK n self list=some r):VQ G 385 [] [vM aK list] (ms 0 1 7 aK r) [ar 82 1 7 aK r]:=by
 unfold iK at h
 refine vq aN Tryz.func385 rfl fun w X β0 hC hg=> ?_
 refine rq hC [] [2] [] [] [] (rq hC [.z (.nat 20)] [3,6] [(3,ms 20 1 7 aK [])] [(20,some (ar 82 1 7 aK []))] [(20,true)] (qs (rq hC [oN aK list] [7,8,9] [(7,vM aK list),(8,vI (list.length:Int)),(9,vI 0)] [] [] (qb (bA (γ:=Nat) h (fun x_ g_=>aX [(3,ms 20 g_ 7 aK x_.1),(7,vM aK list),(8,vI (list.length:Int)),(9,vI x_.2)] [(20,ar 82 g_ 7 aK x_.1)] [20]) 1 (lS) ?_)))))
 rintro again4 ⟨x1,x2⟩ g3 h
 refine rq hC [] [10] [(10,vB (decide (x2<(list.length:Int))))] [] [] (qs (aS h (fun c1 h=> ?_) (fun c1 h=> ?_)))
 ·refine qk (qs (qb ?_))
  obtain⟨x5,hx5,h⟩:=bd h
  refine rq hC [.z (.row (eJ x5)),.z (.nat 21),oQ (fL aK hx5 (cY x5))] [5,11,12] [(5,V.ref 21 0)] [(21,some (E.cells (dJ x5)))] [(21,true)] ?_
  obtain⟨x6,hx6,x7,hx7,h⟩:=dG h
  exact rk hC [oV (hself x5 hx6),.z (.int 2),.z (.rows (List.map aK [x6])),oQ (xV x6),oA (aO aK hx7),oQ (bW (r:=aK) 7 gM x1),oQ (bW (r:=aK) 7 gM [x6])] [3,13,14,15,16,17] [(3,ms 20 (g3+1) 7 aK x7)] [(20,some (ar 82 (g3+1) 7 aK x7))] [] (rk hC [] [9,18] [(9,vI (wr (x2+1)))] [] [] ⟨(x7,wr (x2+1)),(g3+1),h,lS⟩)
 ·obtain rfl:=so h
  exact cU (rq hC [] [2,19] [(2,ms 20 g3 7 aK x1)] [] [] (qw (lk hC [.ren 2 20 0] [2] [(2,ms 0 1 7 aK x1)] [(0,some (ar 82 1 7 aK x1)),(20,none)] [(0,true)]) (qr eW)))
theorem O7(G:GS): ∀(n:Nat) (x:Expr) {r:Expr} (h:s_l16OwnExpr n x=some r),PQ G 370 [V.agg (dJ x)] (V.agg (dJ r)):=by
 intro n
 induction n with
 |zero=>intro x r h;rw [s_l16OwnExpr.eq_def] at h;cases h
 |succ n ih=>
  intro x r h
  rw [s_l16OwnExpr.eq_def] at h;dsimp only at h
  refine pq aN Tryz.func370 rfl fun w X hC=> ?_
  refine rq hC [.z (.nat 20),.z (.nat 21)] [1,2] [(1,V.ref 20 0),(2,V.ref 21 0)] [(20,some (E.cells (dJ x))),(21,sc [vI 0,vI 0,V.t T.nilS,vI 0,vS [],V.t T.nilS,V.t T.nilS])] [(20,true),(21,true)] ?_
  obtain⟨x1,hx1,h⟩:=bd h
  refine rq hC [oV (qH G hx1)] (fr 3 4) [] [(20,sc [vI x.kind,vI x.num,vM rI x1.coefs,vI x1.const,vS x.read.array,vM aB x.read.subs,vM aK x.kids])] [] ?_
  obtain⟨x2,hx2,h⟩:=bd h
  refine rq hC [oV (qI G hx2)] (fr 7 4) [] [(20,sc [vI x.kind,vI x.num,vM rI x1.coefs,vI x1.const,vS x2.array,vM aB x2.subs,vM aK x.kids])] [] ?_
  obtain⟨x3,hx3,h⟩:=bd h
  obtain rfl:=so h
  exact rq hC [oC [] [22] (wD G n (s_l16OwnExpr n) (fun q0 r h=>ih q0 h) x.kids hx3)] (fr 11 4) [] [(22,some (ar 82 1 7 aK x3)),(20,sc [vI x.kind,vI x.num,vM rI x1.coefs,vI x1.const,vS x2.array,vM aB x2.subs,ms 22 1 7 aK x3])] [(22,true)] (rq hC [.z (.at 2),.z (.fz 22 [] [20])] [15] [] [(20,sc [vI x.kind,vI x.num,vM rI x1.coefs,vI x1.const,vS x2.array,vM aB x2.subs,vM aK x3]),(22,none),(21,sc [vI x.kind,vI x.num,vM rI x1.coefs,vI x1.const,vS x2.array,vM aB x2.subs,vM aK x3])] [] (qr eR))
theorem O4{x}{r}(h:kE n x=some r):PQ G 340 [V.agg (cV x)] (V.agg (cV r)):=by
 unfold kE at h
 refine pq aN Tryz.func340 rfl fun w X hC=> ?_
 refine rq hC [.z (.nat 20),.z (.nat 21)] [1,2] [(1,V.ref 20 0),(2,V.ref 21 0)] [(20,some (E.cells (cV x))),(21,sc [vS [],V.t T.nilS,vI 0,vI 0,V.t T.nilS,vI 0,vS [],V.t T.nilS,V.t T.nilS])] [(20,true),(21,true)] ?_
 obtain⟨x1,hx1,h⟩:=bd h
 refine rq hC [oV (qI G hx1)] (fr 3 4) [] [(20,sc [vS x1.array,vM aB x1.subs,vI x.value.kind,vI x.value.num,vM rI x.value.index.coefs,vI x.value.index.const,vS x.value.read.array,vM aB x.value.read.subs,vM aK x.value.kids])] [] ?_
 obtain⟨x2,hx2,h⟩:=bd h
 obtain rfl:=so h
 exact rq hC [oV (O7 G n x.value hx2)] (fr 7 4) [] [(20,sc [vS x1.array,vM aB x1.subs,vI x2.kind,vI x2.num,vM rI x2.index.coefs,vI x2.index.const,vS x2.read.array,vM aB x2.read.subs,vM aK x2.kids])] [] (rq hC [] [11] [] [(21,sc [vS x1.array,vM aB x1.subs,vI x2.kind,vI x2.num,vM rI x2.index.coefs,vI x2.index.const,vS x2.read.array,vM aB x2.read.subs,vM aK x2.kids])] [] (qr eR))
theorem wA{list}{r}(h:fN n list=some r):VQ G 298 [] [vM aI list] (ms 0 1 9 aI r) [ar 84 1 9 aI r]:=by
 unfold fN at h
 refine vq aN Tryz.func298 rfl fun w X β0 hC hg=> ?_
 refine rq hC [] [2] [] [] [] (rq hC [.z (.nat 20)] [3,6] [(3,ms 20 1 9 aI [])] [(20,some (ar 84 1 9 aI []))] [(20,true)] (qs (rq hC [oN aI list] [7,8,9] [(7,vM aI list),(8,vI (list.length:Int)),(9,vI 0)] [] [] (qb (bA (γ:=Nat) h (fun x_ g_=>aX [(3,ms 20 g_ 9 aI x_.1),(7,vM aI list),(8,vI (list.length:Int)),(9,vI x_.2)] [(20,ar 84 g_ 9 aI x_.1)] [20]) 1 (lS) ?_)))))
 rintro again4 ⟨x1,x2⟩ g3 h
 refine rq hC [] [10] [(10,vB (decide (x2<(list.length:Int))))] [] [] (qs (aS h (fun c1 h=> ?_) (fun c1 h=> ?_)))
 ·refine qk (qs (qb ?_))
  obtain⟨x5,hx5,h⟩:=bd h
  refine rq hC [oR aI hx5,.z (.nat 21)] [5,11,12] [(5,V.ref 21 0)] [(21,some (E.cells (cV x5)))] [(21,true)] ?_
  obtain⟨x6,hx6,x7,hx7,h⟩:=dG h
  exact rk hC [oV (O4 G hx6),.z (.int 0),oA (aO aI hx7),oQ (bW (r:=aI) 9 cJ x1),oQ (bW (r:=aI) 9 cJ [x6])] [3,13,14,15,16,17] [(3,ms 20 (g3+1) 9 aI x7)] [(20,some (ar 84 (g3+1) 9 aI x7))] [] (rk hC [] [9,18] [(9,vI (wr (x2+1)))] [] [] ⟨(x7,wr (x2+1)),(g3+1),h,lS⟩)
 ·obtain rfl:=so h
  exact cU (rq hC [] [2,19] [(2,ms 20 g3 9 aI x1)] [] [] (qw (lk hC [.ren 2 20 0] [2] [(2,ms 0 1 9 aI x1)] [(0,some (ar 84 1 9 aI x1)),(20,none)] [(0,true)]) (qr eW)))
theorem O5{x}{r}(h:kF n x=some r):PQ G 239 [V.agg (mL x)] (V.agg (mL r)):=by
 unfold kF at h
 refine pq aN Tryz.func239 rfl fun w X hC=> ?_
 refine rq hC [.z (.nat 20),.z (.nat 21)] [1,2] [(1,V.ref 20 0),(2,V.ref 21 0)] [(20,some (E.cells (mL x))),(21,sc [V.t T.nilS,V.t T.nilS])] [(20,true),(21,true)] ?_
 obtain⟨x1,hx1,h⟩:=bd h
 refine rq hC [oC [] [22] (wC G hx1)] (fr 3 4) [] [(22,some (ar 123 1 2 aD x1)),(20,sc [ms 22 1 2 aD x1,vM aI x.body])] [(22,true)] ?_
 obtain⟨x2,hx2,h⟩:=bd h
 obtain rfl:=so h
 exact rq hC [oC [] [23] (wA G hx2)] (fr 7 4) [] [(23,some (ar 84 1 9 aI x2)),(20,sc [ms 22 1 2 aD x1,ms 23 1 9 aI x2])] [(23,true)] (rq hC [.z (.at 2),.z (.fz 22 [] [20]),.z (.at 2),.z (.fz 23 [] [20])] [11] [] [(20,sc [vM aD x1,vM aI x2]),(22,none),(23,none),(21,sc [vM aD x1,vM aI x2])] [] (qr eR))
theorem wB{list}{r}(h:fO n list=some r):VQ G 160 [] [vM aC list] (ms 0 1 2 aC r) [ar 46 1 2 aC r]:=by
 unfold fO at h
 refine vq aN Tryz.func160 rfl fun w X β0 hC hg=> ?_
 refine rq hC [] [2] [] [] [] (rq hC [.z (.nat 20)] [3,6] [(3,ms 20 1 2 aC [])] [(20,some (ar 46 1 2 aC []))] [(20,true)] (qs (rq hC [oN aC list] [7,8,9] [(7,vM aC list),(8,vI (list.length:Int)),(9,vI 0)] [] [] (qb (bA (γ:=Nat) h (fun x_ g_=>aX [(3,ms 20 g_ 2 aC x_.1),(7,vM aC list),(8,vI (list.length:Int)),(9,vI x_.2)] [(20,ar 46 g_ 2 aC x_.1)] [20]) 1 (lS) ?_)))))
 rintro again4 ⟨x1,x2⟩ g3 h
 refine rq hC [] [10] [(10,vB (decide (x2<(list.length:Int))))] [] [] (qs (aS h (fun c1 h=> ?_) (fun c1 h=> ?_)))
 ·refine qk (qs (qb ?_))
  obtain⟨x5,hx5,h⟩:=bd h
  refine rq hC [oR aC hx5,.z (.nat 21)] [5,11,12] [(5,V.ref 21 0)] [(21,some (E.cells (mL x5)))] [(21,true)] ?_
  obtain⟨x6,hx6,x7,hx7,h⟩:=dG h
  exact rk hC [oV (O5 G hx6),.z (.int 0),oA (aO aC hx7),oQ (bW (r:=aC) 2 b6 x1),oQ (bW (r:=aC) 2 b6 [x6])] [3,13,14,15,16,17] [(3,ms 20 (g3+1) 2 aC x7)] [(20,some (ar 46 (g3+1) 2 aC x7))] [] (rk hC [] [9,18] [(9,vI (wr (x2+1)))] [] [] ⟨(x7,wr (x2+1)),(g3+1),h,lS⟩)
 ·obtain rfl:=so h
  exact cU (rq hC [] [2,19] [(2,ms 20 g3 2 aC x1)] [] [] (qw (lk hC [.ren 2 20 0] [2] [(2,ms 0 1 2 aC x1)] [(0,some (ar 46 1 2 aC x1)),(20,none)] [(0,true)]) (qr eW)))
theorem C3{x}{r}(h:l4 n x=some r):PQ G 238 [V.agg [vS x.name,vM rI x.dims]] (V.agg [vS r.name,vM rI r.dims]):=by
 unfold l4 at h
 refine pq aN Tryz.func238 rfl fun w X hC=> ?_
 refine rq hC [.z (.nat 20),.z (.nat 21)] [1,2] [(1,V.ref 20 0),(2,V.ref 21 0)] [(20,sc [vS x.name,vM rI x.dims]),(21,sc [vS [],V.t T.nilS])] [(20,true),(21,true)] ?_
 obtain⟨x1,hx1,h⟩:=bd h
 obtain rfl:=so h
 exact rq hC [.z (.nat 22),oA (aO rI hx1),oQ (bW (r:=rI) 1 (fun _=>rfl) []),oQ (bW (r:=rI) 1 (fun _=>rfl) x.dims)] (fr 3 5) [] [(22,some (ar 3 2 1 rI x1)),(20,sc [vS x.name,ms 22 2 1 rI x1])] [(22,true)] (rq hC [.z (.at 2),.z (.fz 22 [] [20])] [8] [] [(20,sc [vS x.name,vM rI x1]),(22,none),(21,sc [vS x.name,vM rI x1])] [] (qr eR))
theorem uP{list}{r}(h:eZ n list=some r):VQ G 159 [] [vM aH list] (ms 0 1 2 aH r) [ar 90 1 2 aH r]:=by
 unfold eZ at h
 refine vq aN Tryz.func159 rfl fun w X β0 hC hg=> ?_
 refine rq hC [] [2] [] [] [] (rq hC [.z (.nat 20)] [3,6] [(3,ms 20 1 2 aH [])] [(20,some (ar 90 1 2 aH []))] [(20,true)] (qs (rq hC [oN aH list] [7,8,9] [(7,vM aH list),(8,vI (list.length:Int)),(9,vI 0)] [] [] (qb (bA (γ:=Nat) h (fun x_ g_=>aX [(3,ms 20 g_ 2 aH x_.1),(7,vM aH list),(8,vI (list.length:Int)),(9,vI x_.2)] [(20,ar 90 g_ 2 aH x_.1)] [20]) 1 (lS) ?_)))))
 rintro again4 ⟨x1,x2⟩ g3 h
 refine rq hC [] [10] [(10,vB (decide (x2<(list.length:Int))))] [] [] (qs (aS h (fun c1 h=> ?_) (fun c1 h=> ?_)))
 ·refine qk (qs (qb ?_))
  obtain⟨x5,hx5,h⟩:=bd h
  refine rq hC [oR aH hx5,.z (.nat 21)] [5,11,12] [(5,V.ref 21 0)] [(21,sc [vS x5.name,vM rI x5.dims])] [(21,true)] ?_
  obtain⟨x6,hx6,x7,hx7,h⟩:=dG h
  exact rk hC [oV (C3 G hx6),.z (.int 0),oA (aO aH hx7),oQ (bW (r:=aH) 2 gH x1),oQ (bW (r:=aH) 2 gH [x6])] [3,13,14,15,16,17] [(3,ms 20 (g3+1) 2 aH x7)] [(20,some (ar 90 (g3+1) 2 aH x7))] [] (rk hC [] [9,18] [(9,vI (wr (x2+1)))] [] [] ⟨(x7,wr (x2+1)),(g3+1),h,lS⟩)
 ·obtain rfl:=so h
  exact cU (rq hC [] [2,19] [(2,ms 20 g3 2 aH x1)] [] [] (qw (lk hC [.ren 2 20 0] [2] [(2,ms 0 1 2 aH x1)] [(0,some (ar 90 1 2 aH x1)),(20,none)] [(0,true)]) (qr eW)))
theorem yA{x}{r}(h:gG n x=some r):PQ G 67 [V.agg (bD x)] (V.agg (bD r)):=by
 unfold gG at h
 refine pq aN Tryz.func67 rfl fun w X hC=> ?_
 refine rq hC [.z (.nat 20),.z (.nat 21)] [1,2] [(1,V.ref 20 0),(2,V.ref 21 0)] [(20,some (E.cells (bD x))),(21,sc [V.t T.nilS,V.t T.nilS])] [(20,true),(21,true)] ?_
 obtain⟨x1,hx1,h⟩:=bd h
 refine rq hC [oC [] [22] (uP G hx1)] (fr 3 4) [] [(22,some (ar 90 1 2 aH x1)),(20,sc [ms 22 1 2 aH x1,vM aC x.parts])] [(22,true)] ?_
 obtain⟨x2,hx2,h⟩:=bd h
 obtain rfl:=so h
 exact rq hC [oC [] [23] (wB G hx2)] (fr 7 4) [] [(23,some (ar 46 1 2 aC x2)),(20,sc [ms 22 1 2 aH x1,ms 23 1 2 aC x2])] [(23,true)] (rq hC [.z (.at 2),.z (.fz 22 [] [20]),.z (.at 2),.z (.fz 23 [] [20])] [11] [] [(20,sc [vM aH x1,vM aC x2]),(22,none),(23,none),(21,sc [vM aH x1,vM aC x2])] [] (qr eR))
theorem wI(G:GS)(n:Nat)(s1:List Loop)(s2:List Loop)(eqF:FuncId)(eq:Loop→Loop→Option Bool)(heq: ∀(q0:Loop) (q1:Loop) r,eq q0 q1=some r→PQ G eqF [V.agg (lB q0),V.agg (lB q1)] (vB r)){r:Bool}(h:iP n s1 s2 eq=some r):PQ G 168 [vM aD s1,vM aD s2,V.fn eqF []] (vB r):=by
 unfold iP at h
 refine pq aN Tryz.func168 rfl fun w X hC=> ?_
 refine rq hC [] [6] [] [] [] (qs (rq hC [oN aD s1,oN aD s2] (fr 10 5) [(14,vB (!decide ((s1.length:Int)=(s2.length:Int))))] [] [] (aS h (fun c1 h=> ?_) (fun c1 h=> ?_))))
 ·obtain rfl:=so h
  exact rq hC [] [6] [(6,vB false)] [] [] (qr eR)
 ·refine qk (qs (rq hC [oN aD s1] [15,16,17] [(15,vM aD s1),(16,vI (s1.length:Int)),(17,vI 0)] [] [] (qb (jZ h (fun x_=>aX [(1,vM aD s2),(2,V.fn eqF []),(15,vM aD s1),(16,vI (s1.length:Int)),(17,vI x_)] [] []) lS ?_))))
  rintro again2 x1 h
  refine rq hC [] [18] [(18,vB (decide (x1<(s1.length:Int))))] [] [] (qs (aS h (fun c2 h=> ?_) (fun c2 h=> ?_)))
  ·refine qk (qs (qb ?_))
   obtain⟨x3,hx3,h⟩:=bd h
   refine rq hC [oR aD hx3,.z (.nat 20)] [7,8,19,20,21] [(7,vI x1),(8,V.ref 20 0)] [(20,some (E.cells (lB x3)))] [(20,true)] ?_
   obtain⟨x4,hx4,h⟩:=bd h
   refine rq hC [oR aD hx4,.z (.nat 21)] [9,22,23,24,25] [(9,V.ref 21 0)] [(21,some (E.cells (lB x4)))] [(21,true)] ?_
   obtain⟨x5,hx5,h⟩:=bd h
   refine rq hC [oV (heq x3 x4 _ hx5)] (fr 26 5) [(30,vB (!x5))] [] [] (aS h (fun c3 h=> ?_) (fun c3 h=> ?_))
   ·obtain rfl:=so h
    exact rq hC [] [6] [(6,vB false)] [] [] (qr eR)
   ·exact qk (rk hC [] [17,31] [(17,vI (wr (x1+1)))] [] [] (lE h))
  ·obtain rfl:=so h
   exact cU (rq hC [] [6] [(6,vB true)] [] [] (qr eR))
theorem fH(G:GS)(n:Nat)(s1:List Affine)(s2:List Affine)(eqF:FuncId)(eq:Affine→Affine→Option Bool)(heq: ∀(q0:Affine) (q1:Affine) r,eq q0 q1=some r→PQ G eqF [V.agg (aT q0),V.agg (aT q1)] (vB r)){r:Bool}(h:cQ n s1 s2 eq=some r):PQ G 170 [vM aB s1,vM aB s2,V.fn eqF []] (vB r):=by
 unfold cQ at h
 refine pq aN Tryz.func170 rfl fun w X hC=> ?_
 refine rq hC [] [6] [] [] [] (qs (rq hC [oN aB s1,oN aB s2] (fr 10 5) [(14,vB (!decide ((s1.length:Int)=(s2.length:Int))))] [] [] (aS h (fun c1 h=> ?_) (fun c1 h=> ?_))))
 ·obtain rfl:=so h
  exact rq hC [] [6] [(6,vB false)] [] [] (qr eR)
 ·refine qk (qs (rq hC [oN aB s1] [15,16,17] [(15,vM aB s1),(16,vI (s1.length:Int)),(17,vI 0)] [] [] (qb (jZ h (fun x_=>aX [(1,vM aB s2),(2,V.fn eqF []),(15,vM aB s1),(16,vI (s1.length:Int)),(17,vI x_)] [] []) lS ?_))))
  rintro again2 x1 h
  refine rq hC [] [18] [(18,vB (decide (x1<(s1.length:Int))))] [] [] (qs (aS h (fun c2 h=> ?_) (fun c2 h=> ?_)))
  ·refine qk (qs (qb ?_))
   obtain⟨x3,hx3,h⟩:=bd h
   refine rq hC [oR aB hx3,.z (.nat 20)] [7,8,19,20,21] [(7,vI x1),(8,V.ref 20 0)] [(20,some (E.cells (aT x3)))] [(20,true)] ?_
   obtain⟨x4,hx4,h⟩:=bd h
   refine rq hC [oR aB hx4,.z (.nat 21)] [9,22,23,24,25] [(9,V.ref 21 0)] [(21,some (E.cells (aT x4)))] [(21,true)] ?_
   obtain⟨x5,hx5,h⟩:=bd h
   refine rq hC [oV (heq x3 x4 _ hx5)] (fr 26 5) [(30,vB (!x5))] [] [] (aS h (fun c3 h=> ?_) (fun c3 h=> ?_))
   ·obtain rfl:=so h
    exact rq hC [] [6] [(6,vB false)] [] [] (qr eR)
   ·exact qk (rk hC [] [17,31] [(17,vI (wr (x1+1)))] [] [] (lE h))
  ·obtain rfl:=so h
   exact cU (rq hC [] [6] [(6,vB true)] [] [] (qr eR))
end Go.Lift
