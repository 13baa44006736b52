/- The walks: the code computes what the plain functions say. -/
import Derived.Test.YtdcjmccimcppbaaGreatAModels
import Derived.Test.YtdcjmccimcppbaaGreatAWalks2
set_option maxRecDepth 10000
set_option linter.unusedVariables false
namespace Go.Lift
open Go Go.Proofs
variable (G:GS) {n:Nat}
theorem hA{list}{r}(h:cL n list=some r):VQ G 368 [] [vM aB list] (ms 0 1 2 aB r) [ar 79 1 2 aB r]:=by
 unfold cL at h
 refine vq aN Tryz.func368 rfl fun w X β0 hC hg=> ?_
 refine rq hC [] [2] [] [] [] (rq hC [.z (.nat 20)] [3,6] [(3,ms 20 1 2 aB [])] [(20,some (ar 79 1 2 aB []))] [(20,true)] (qs (rq hC [oN aB list] [7,8,9] [(7,vM aB list),(8,vI (list.length:Int)),(9,vI 0)] [] [] (qb (bF (γ:=Nat) h (fun x_ g_=>aZ [(3,ms 20 g_ 2 aB x_.1),(7,vM aB list),(8,vI (list.length:Int)),(9,vI x_.2)] [(20,ar 79 g_ 2 aB x_.1)] [20]) 1 (lS) ?_)))))
 rintro again4 ⟨x1,x2⟩ g3 h
 refine rq hC [] [10] [(10,vB (decide (x2<(list.length:Int))))] [] [] (qs (aP h (fun c1 h=> ?_) (fun c1 h=> ?_)))
 ·refine qk (qs (qb ?_))
  obtain⟨x5,hx5,h⟩:=bd h
  refine rq hC [oR aB hx5,.z (.nat 21)] [5,11,12] [(5,V.ref 21 0)] [(21,some (E.cells (aR x5)))] [(21,true)] ?_
  obtain⟨x6,hx6,x7,hx7,h⟩:=dS h
  exact rk hC [oV (pY G hx6),.z (.int 0),oA (aQ aB hx7),oQ (cE (r:=aB) 2 bC x1),oQ (cE (r:=aB) 2 bC [x6])] [3,13,14,15,16,17] [(3,ms 20 (g3+1) 2 aB x7)] [(20,some (ar 79 (g3+1) 2 aB x7))] [] (rk hC [] [9,18] [(9,vI (wr (x2+1)))] [] [] ⟨(x7,wr (x2+1)),(g3+1),h,lS⟩)
 ·obtain rfl:=so h
  exact dB (rq hC [] [2,19] [(2,ms 20 g3 2 aB x1)] [] [] (qw (lk hC [.ren 2 20 0] [2] [(2,ms 0 1 2 aB x1)] [(0,some (ar 79 1 2 aB x1)),(20,none)] [(0,true)]) (qr eW)))
theorem K0{x}{r}(h:mO n x=some r):PQ G 339 [V.agg (mB x)] (V.agg (mB r)):=by
 unfold mO at h
 refine pq aN Tryz.func339 rfl fun w X hC=> ?_
 refine rq hC [.z (.nat 20),.z (.nat 21)] [1,2] [(1,V.ref 20 0),(2,V.ref 21 0)] [(20,some (E.cells (mB x))),(21,sc [V.t T.nilS,V.t T.nilS])] [(20,true),(21,true)] ?_
 obtain⟨x1,hx1,h⟩:=bd h
 refine rq hC [oC [] [22] (hA G hx1)] (fr 3 4) [] [(22,some (ar 79 1 2 aB x1)),(20,sc [ms 22 1 2 aB x1,vM aB x.hi])] [(22,true)] ?_
 obtain⟨x2,hx2,h⟩:=bd h
 obtain rfl:=so h
 exact rq hC [oC [] [23] (hA G hx2)] (fr 7 4) [] [(23,some (ar 79 1 2 aB x2)),(20,sc [ms 22 1 2 aB x1,ms 23 1 2 aB x2])] [(23,true)] (rq hC [.z (.at 2),.z (.fz 22 [] [20]),.z (.at 2),.z (.fz 23 [] [20])] [11] [] [(20,sc [vM aB x1,vM aB x2]),(22,none),(23,none),(21,sc [vM aB x1,vM aB x2])] [] (qr eR))
theorem u9{list}{r}(h:fO n list=some r):VQ G 297 [] [vM aD list] (ms 0 1 2 aD r) [ar 123 1 2 aD r]:=by
 unfold fO at h
 refine vq aN Tryz.func297 rfl fun w X β0 hC hg=> ?_
 refine rq hC [] [2] [] [] [] (rq hC [.z (.nat 20)] [3,6] [(3,ms 20 1 2 aD [])] [(20,some (ar 123 1 2 aD []))] [(20,true)] (qs (rq hC [oN aD list] [7,8,9] [(7,vM aD list),(8,vI (list.length:Int)),(9,vI 0)] [] [] (qb (bF (γ:=Nat) h (fun x_ g_=>aZ [(3,ms 20 g_ 2 aD x_.1),(7,vM aD list),(8,vI (list.length:Int)),(9,vI x_.2)] [(20,ar 123 g_ 2 aD x_.1)] [20]) 1 (lS) ?_)))))
 rintro again4 ⟨x1,x2⟩ g3 h
 refine rq hC [] [10] [(10,vB (decide (x2<(list.length:Int))))] [] [] (qs (aP h (fun c1 h=> ?_) (fun c1 h=> ?_)))
 ·refine qk (qs (qb ?_))
  obtain⟨x5,hx5,h⟩:=bd h
  refine rq hC [oR aD hx5,.z (.nat 21)] [5,11,12] [(5,V.ref 21 0)] [(21,some (E.cells (mB x5)))] [(21,true)] ?_
  obtain⟨x6,hx6,x7,hx7,h⟩:=dS h
  exact rk hC [oV (K0 G hx6),.z (.int 0),oA (aQ aD hx7),oQ (cE (r:=aD) 2 dT x1),oQ (cE (r:=aD) 2 dT [x6])] [3,13,14,15,16,17] [(3,ms 20 (g3+1) 2 aD x7)] [(20,some (ar 123 (g3+1) 2 aD x7))] [] (rk hC [] [9,18] [(9,vI (wr (x2+1)))] [] [] ⟨(x7,wr (x2+1)),(g3+1),h,lS⟩)
 ·obtain rfl:=so h
  exact dB (rq hC [] [2,19] [(2,ms 20 g3 2 aD x1)] [] [] (qw (lk hC [.ren 2 20 0] [2] [(2,ms 0 1 2 aD x1)] [(0,some (ar 123 1 2 aD x1)),(20,none)] [(0,true)]) (qr eW)))
theorem pZ{x}{r}(h:fQ n x=some r):PQ G 369 [V.agg (cW x)] (V.agg (cW r)):=by
 unfold fQ at h
 refine pq aN Tryz.func369 rfl fun w X hC=> ?_
 refine rq hC [.z (.nat 20),.z (.nat 21)] [1,2] [(1,V.ref 20 0),(2,V.ref 21 0)] [(20,some (E.cells (cW x))),(21,sc [vS [],V.t T.nilS])] [(20,true),(21,true)] ?_
 obtain⟨x1,hx1,h⟩:=bd h
 obtain rfl:=so h
 exact rq hC [oC [] [22] (hA G hx1)] (fr 3 4) [] [(22,some (ar 79 1 2 aB x1)),(20,sc [vS x.array,ms 22 1 2 aB x1])] [(22,true)] (rq hC [.z (.at 2),.z (.fz 22 [] [20])] [7] [] [(20,sc [vS x.array,vM aB x1]),(22,none),(21,sc [vS x.array,vM aB x1])] [] (qr eR))
theorem vA(G:GS)(n:Nat)(self:Expr→Option Expr)(hself: ∀(q0:Expr) {r:Expr},self q0=some r→PQ G 370 [V.agg (aT q0)] (V.agg (aT r)))(list:List Expr){r:(List Expr)}(h:iA n self list=some r):VQ G 385 [] [vM aH list] (ms 0 1 7 aH r) [ar 82 1 7 aH r]:=by
 unfold iA at h
 refine vq aN Tryz.func385 rfl fun w X β0 hC hg=> ?_
 refine rq hC [] [2] [] [] [] (rq hC [.z (.nat 20)] [3,6] [(3,ms 20 1 7 aH [])] [(20,some (ar 82 1 7 aH []))] [(20,true)] (qs (rq hC [oN aH list] [7,8,9] [(7,vM aH list),(8,vI (list.length:Int)),(9,vI 0)] [] [] (qb (bF (γ:=Nat) h (fun x_ g_=>aZ [(3,ms 20 g_ 7 aH x_.1),(7,vM aH list),(8,vI (list.length:Int)),(9,vI x_.2)] [(20,ar 82 g_ 7 aH x_.1)] [20]) 1 (lS) ?_)))))
 rintro again4 ⟨x1,x2⟩ g3 h
 refine rq hC [] [10] [(10,vB (decide (x2<(list.length:Int))))] [] [] (qs (aP h (fun c1 h=> ?_) (fun c1 h=> ?_)))
 ·refine qk (qs (qb ?_))
  obtain⟨x5,hx5,h⟩:=bd h
  refine rq hC [.z (.row (cY x5)),.z (.nat 21),oQ (dG aH hx5 (bW x5))] [5,11,12] [(5,V.ref 21 0)] [(21,some (E.cells (aT x5)))] [(21,true)] ?_
  obtain⟨x6,hx6,x7,hx7,h⟩:=dS h
  exact rk hC [oV (hself x5 hx6),.z (.int 2),.z (.rows (List.map aH [x6])),oQ (qX x6),oA (aQ aH hx7),oQ (cE (r:=aH) 7 dU x1),oQ (cE (r:=aH) 7 dU [x6])] [3,13,14,15,16,17] [(3,ms 20 (g3+1) 7 aH x7)] [(20,some (ar 82 (g3+1) 7 aH x7))] [] (rk hC [] [9,18] [(9,vI (wr (x2+1)))] [] [] ⟨(x7,wr (x2+1)),(g3+1),h,lS⟩)
 ·obtain rfl:=so h
  exact dB (rq hC [] [2,19] [(2,ms 20 g3 7 aH x1)] [] [] (qw (lk hC [.ren 2 20 0] [2] [(2,ms 0 1 7 aH x1)] [(0,some (ar 82 1 7 aH x1)),(20,none)] [(0,true)]) (qr eW)))
theorem K1(G:GS): ∀(n:Nat) (x:Expr) {r:Expr} (h:s_l16OwnExpr n x=some r),PQ G 370 [V.agg (aT x)] (V.agg (aT r)):=by
 intro n
 induction n with
 |zero=>intro x r h;rw [s_l16OwnExpr.eq_def] at h;cases h
 |succ n ih=>
  intro x r h
  rw [s_l16OwnExpr.eq_def] at h;dsimp only at h
  refine pq aN Tryz.func370 rfl fun w X hC=> ?_
  refine rq hC [.z (.nat 20),.z (.nat 21)] [1,2] [(1,V.ref 20 0),(2,V.ref 21 0)] [(20,some (E.cells (aT x))),(21,sc [vI 0,vI 0,V.t T.nilS,vI 0,vS [],V.t T.nilS,V.t T.nilS])] [(20,true),(21,true)] ?_
  obtain⟨x1,hx1,h⟩:=bd h
  refine rq hC [oV (pY G hx1)] (fr 3 4) [] [(20,sc [vI x.kind,vI x.num,vM rI x1.coefs,vI x1.const,vS x.read.array,vM aB x.read.subs,vM aH x.kids])] [] ?_
  obtain⟨x2,hx2,h⟩:=bd h
  refine rq hC [oV (pZ G hx2)] (fr 7 4) [] [(20,sc [vI x.kind,vI x.num,vM rI x1.coefs,vI x1.const,vS x2.array,vM aB x2.subs,vM aH x.kids])] [] ?_
  obtain⟨x3,hx3,h⟩:=bd h
  obtain rfl:=so h
  exact rq hC [oC [] [22] (vA G n (s_l16OwnExpr n) (fun q0 r h=>ih q0 h) x.kids hx3)] (fr 11 4) [] [(22,some (ar 82 1 7 aH x3)),(20,sc [vI x.kind,vI x.num,vM rI x1.coefs,vI x1.const,vS x2.array,vM aB x2.subs,ms 22 1 7 aH x3])] [(22,true)] (rq hC [.z (.at 2),.z (.fz 22 [] [20])] [15] [] [(20,sc [vI x.kind,vI x.num,vM rI x1.coefs,vI x1.const,vS x2.array,vM aB x2.subs,vM aH x3]),(22,none),(21,sc [vI x.kind,vI x.num,vM rI x1.coefs,vI x1.const,vS x2.array,vM aB x2.subs,vM aH x3])] [] (qr eR))
theorem J8{x}{r}(h:jT n x=some r):PQ G 340 [V.agg (cD x)] (V.agg (cD r)):=by
 unfold jT at h
 refine pq aN Tryz.func340 rfl fun w X hC=> ?_
 refine rq hC [.z (.nat 20),.z (.nat 21)] [1,2] [(1,V.ref 20 0),(2,V.ref 21 0)] [(20,some (E.cells (cD x))),(21,sc [vS [],V.t T.nilS,vI 0,vI 0,V.t T.nilS,vI 0,vS [],V.t T.nilS,V.t T.nilS])] [(20,true),(21,true)] ?_
 obtain⟨x1,hx1,h⟩:=bd h
 refine rq hC [oV (pZ G hx1)] (fr 3 4) [] [(20,sc [vS x1.array,vM aB x1.subs,vI x.value.kind,vI x.value.num,vM rI x.value.index.coefs,vI x.value.index.const,vS x.value.read.array,vM aB x.value.read.subs,vM aH x.value.kids])] [] ?_
 obtain⟨x2,hx2,h⟩:=bd h
 obtain rfl:=so h
 exact rq hC [oV (K1 G n x.value hx2)] (fr 7 4) [] [(20,sc [vS x1.array,vM aB x1.subs,vI x2.kind,vI x2.num,vM rI x2.index.coefs,vI x2.index.const,vS x2.read.array,vM aB x2.read.subs,vM aH x2.kids])] [] (rq hC [] [11] [] [(21,sc [vS x1.array,vM aB x1.subs,vI x2.kind,vI x2.num,vM rI x2.index.coefs,vI x2.index.const,vS x2.read.array,vM aB x2.read.subs,vM aH x2.kids])] [] (qr eR))
theorem u6{list}{r}(h:fM n list=some r):VQ G 298 [] [vM aG list] (ms 0 1 9 aG r) [ar 84 1 9 aG r]:=by
 unfold fM at h
 refine vq aN Tryz.func298 rfl fun w X β0 hC hg=> ?_
 refine rq hC [] [2] [] [] [] (rq hC [.z (.nat 20)] [3,6] [(3,ms 20 1 9 aG [])] [(20,some (ar 84 1 9 aG []))] [(20,true)] (qs (rq hC [oN aG list] [7,8,9] [(7,vM aG list),(8,vI (list.length:Int)),(9,vI 0)] [] [] (qb (bF (γ:=Nat) h (fun x_ g_=>aZ [(3,ms 20 g_ 9 aG x_.1),(7,vM aG list),(8,vI (list.length:Int)),(9,vI x_.2)] [(20,ar 84 g_ 9 aG x_.1)] [20]) 1 (lS) ?_)))))
 rintro again4 ⟨x1,x2⟩ g3 h
 refine rq hC [] [10] [(10,vB (decide (x2<(list.length:Int))))] [] [] (qs (aP h (fun c1 h=> ?_) (fun c1 h=> ?_)))
 ·refine qk (qs (qb ?_))
  obtain⟨x5,hx5,h⟩:=bd h
  refine rq hC [oR aG hx5,.z (.nat 21)] [5,11,12] [(5,V.ref 21 0)] [(21,some (E.cells (cD x5)))] [(21,true)] ?_
  obtain⟨x6,hx6,x7,hx7,h⟩:=dS h
  exact rk hC [oV (J8 G hx6),.z (.int 0),oA (aQ aG hx7),oQ (cE (r:=aG) 9 gI x1),oQ (cE (r:=aG) 9 gI [x6])] [3,13,14,15,16,17] [(3,ms 20 (g3+1) 9 aG x7)] [(20,some (ar 84 (g3+1) 9 aG x7))] [] (rk hC [] [9,18] [(9,vI (wr (x2+1)))] [] [] ⟨(x7,wr (x2+1)),(g3+1),h,lS⟩)
 ·obtain rfl:=so h
  exact dB (rq hC [] [2,19] [(2,ms 20 g3 9 aG x1)] [] [] (qw (lk hC [.ren 2 20 0] [2] [(2,ms 0 1 9 aG x1)] [(0,some (ar 84 1 9 aG x1)),(20,none)] [(0,true)]) (qr eW)))
theorem J9{x}{r}(h:jU n x=some r):PQ G 239 [V.agg (o4 x)] (V.agg (o4 r)):=by
 unfold jU at h
 refine pq aN Tryz.func239 rfl fun w X hC=> ?_
 refine rq hC [.z (.nat 20),.z (.nat 21)] [1,2] [(1,V.ref 20 0),(2,V.ref 21 0)] [(20,some (E.cells (o4 x))),(21,sc [V.t T.nilS,V.t T.nilS])] [(20,true),(21,true)] ?_
 obtain⟨x1,hx1,h⟩:=bd h
 refine rq hC [oC [] [22] (u9 G hx1)] (fr 3 4) [] [(22,some (ar 123 1 2 aD x1)),(20,sc [ms 22 1 2 aD x1,vM aG x.body])] [(22,true)] ?_
 obtain⟨x2,hx2,h⟩:=bd h
 obtain rfl:=so h
 exact rq hC [oC [] [23] (u6 G hx2)] (fr 7 4) [] [(23,some (ar 84 1 9 aG x2)),(20,sc [ms 22 1 2 aD x1,ms 23 1 9 aG x2])] [(23,true)] (rq hC [.z (.at 2),.z (.fz 22 [] [20]),.z (.at 2),.z (.fz 23 [] [20])] [11] [] [(20,sc [vM aD x1,vM aG x2]),(22,none),(23,none),(21,sc [vM aD x1,vM aG x2])] [] (qr eR))
theorem u7{list}{r}(h:fN n list=some r):VQ G 160 [] [vM aC list] (ms 0 1 2 aC r) [ar 46 1 2 aC r]:=by
 unfold fN at h
 refine vq aN Tryz.func160 rfl fun w X β0 hC hg=> ?_
 refine rq hC [] [2] [] [] [] (rq hC [.z (.nat 20)] [3,6] [(3,ms 20 1 2 aC [])] [(20,some (ar 46 1 2 aC []))] [(20,true)] (qs (rq hC [oN aC list] [7,8,9] [(7,vM aC list),(8,vI (list.length:Int)),(9,vI 0)] [] [] (qb (bF (γ:=Nat) h (fun x_ g_=>aZ [(3,ms 20 g_ 2 aC x_.1),(7,vM aC list),(8,vI (list.length:Int)),(9,vI x_.2)] [(20,ar 46 g_ 2 aC x_.1)] [20]) 1 (lS) ?_)))))
 rintro again4 ⟨x1,x2⟩ g3 h
 refine rq hC [] [10] [(10,vB (decide (x2<(list.length:Int))))] [] [] (qs (aP h (fun c1 h=> ?_) (fun c1 h=> ?_)))
 ·refine qk (qs (qb ?_))
  obtain⟨x5,hx5,h⟩:=bd h
  refine rq hC [oR aC hx5,.z (.nat 21)] [5,11,12] [(5,V.ref 21 0)] [(21,some (E.cells (o4 x5)))] [(21,true)] ?_
  obtain⟨x6,hx6,x7,hx7,h⟩:=dS h
  exact rk hC [oV (J9 G hx6),.z (.int 0),oA (aQ aC hx7),oQ (cE (r:=aC) 2 fR x1),oQ (cE (r:=aC) 2 fR [x6])] [3,13,14,15,16,17] [(3,ms 20 (g3+1) 2 aC x7)] [(20,some (ar 46 (g3+1) 2 aC x7))] [] (rk hC [] [9,18] [(9,vI (wr (x2+1)))] [] [] ⟨(x7,wr (x2+1)),(g3+1),h,lS⟩)
 ·obtain rfl:=so h
  exact dB (rq hC [] [2,19] [(2,ms 20 g3 2 aC x1)] [] [] (qw (lk hC [.ren 2 20 0] [2] [(2,ms 0 1 2 aC x1)] [(0,some (ar 46 1 2 aC x1)),(20,none)] [(0,true)]) (qr eW)))
theorem zO{x}{r}(h:lN n x=some r):PQ G 238 [V.agg [vS x.name,vM rI x.dims]] (V.agg [vS r.name,vM rI r.dims]):=by
 unfold lN at h
 refine pq aN Tryz.func238 rfl fun w X hC=> ?_
 refine rq hC [.z (.nat 20),.z (.nat 21)] [1,2] [(1,V.ref 20 0),(2,V.ref 21 0)] [(20,sc [vS x.name,vM rI x.dims]),(21,sc [vS [],V.t T.nilS])] [(20,true),(21,true)] ?_
 obtain⟨x1,hx1,h⟩:=bd h
 obtain rfl:=so h
 exact rq hC [.z (.nat 22),oA (aQ rI hx1),oQ (cE (r:=rI) 1 (fun _=>rfl) []),oQ (cE (r:=rI) 1 (fun _=>rfl) x.dims)] (fr 3 5) [] [(22,some (ar 3 2 1 rI x1)),(20,sc [vS x.name,ms 22 2 1 rI x1])] [(22,true)] (rq hC [.z (.at 2),.z (.fz 22 [] [20])] [8] [] [(20,sc [vS x.name,vM rI x1]),(22,none),(21,sc [vS x.name,vM rI x1])] [] (qr eR))
theorem tX{list}{r}(h:eU n list=some r):VQ G 159 [] [vM aK list] (ms 0 1 2 aK r) [ar 90 1 2 aK r]:=by
 unfold eU at h
 refine vq aN Tryz.func159 rfl fun w X β0 hC hg=> ?_
 refine rq hC [] [2] [] [] [] (rq hC [.z (.nat 20)] [3,6] [(3,ms 20 1 2 aK [])] [(20,some (ar 90 1 2 aK []))] [(20,true)] (qs (rq hC [oN aK list] [7,8,9] [(7,vM aK list),(8,vI (list.length:Int)),(9,vI 0)] [] [] (qb (bF (γ:=Nat) h (fun x_ g_=>aZ [(3,ms 20 g_ 2 aK x_.1),(7,vM aK list),(8,vI (list.length:Int)),(9,vI x_.2)] [(20,ar 90 g_ 2 aK x_.1)] [20]) 1 (lS) ?_)))))
 rintro again4 ⟨x1,x2⟩ g3 h
 refine rq hC [] [10] [(10,vB (decide (x2<(list.length:Int))))] [] [] (qs (aP h (fun c1 h=> ?_) (fun c1 h=> ?_)))
 ·refine qk (qs (qb ?_))
  obtain⟨x5,hx5,h⟩:=bd h
  refine rq hC [oR aK hx5,.z (.nat 21)] [5,11,12] [(5,V.ref 21 0)] [(21,sc [vS x5.name,vM rI x5.dims])] [(21,true)] ?_
  obtain⟨x6,hx6,x7,hx7,h⟩:=dS h
  exact rk hC [oV (zO G hx6),.z (.int 0),oA (aQ aK hx7),oQ (cE (r:=aK) 2 iU x1),oQ (cE (r:=aK) 2 iU [x6])] [3,13,14,15,16,17] [(3,ms 20 (g3+1) 2 aK x7)] [(20,some (ar 90 (g3+1) 2 aK x7))] [] (rk hC [] [9,18] [(9,vI (wr (x2+1)))] [] [] ⟨(x7,wr (x2+1)),(g3+1),h,lS⟩)
 ·obtain rfl:=so h
  exact dB (rq hC [] [2,19] [(2,ms 20 g3 2 aK x1)] [] [] (qw (lk hC [.ren 2 20 0] [2] [(2,ms 0 1 2 aK x1)] [(0,some (ar 90 1 2 aK x1)),(20,none)] [(0,true)]) (qr eW)))
theorem wS{x}{r}(h:gE n x=some r):PQ G 67 [V.agg (bM x)] (V.agg (bM r)):=by
 unfold gE at h
 refine pq aN Tryz.func67 rfl fun w X hC=> ?_
 refine rq hC [.z (.nat 20),.z (.nat 21)] [1,2] [(1,V.ref 20 0),(2,V.ref 21 0)] [(20,some (E.cells (bM x))),(21,sc [V.t T.nilS,V.t T.nilS])] [(20,true),(21,true)] ?_
 obtain⟨x1,hx1,h⟩:=bd h
 refine rq hC [oC [] [22] (tX G hx1)] (fr 3 4) [] [(22,some (ar 90 1 2 aK x1)),(20,sc [ms 22 1 2 aK x1,vM aC x.parts])] [(22,true)] ?_
 obtain⟨x2,hx2,h⟩:=bd h
 obtain rfl:=so h
 exact rq hC [oC [] [23] (u7 G hx2)] (fr 7 4) [] [(23,some (ar 46 1 2 aC x2)),(20,sc [ms 22 1 2 aK x1,ms 23 1 2 aC x2])] [(23,true)] (rq hC [.z (.at 2),.z (.fz 22 [] [20]),.z (.at 2),.z (.fz 23 [] [20])] [11] [] [(20,sc [vM aK x1,vM aC x2]),(22,none),(23,none),(21,sc [vM aK x1,vM aC x2])] [] (qr eR))
theorem aCG{e}{a}{b}{r}(h:sK n e a b=some r):PQ G 306 [V.agg (aT e),vI a,vI b] (V.agg (aT r)):=by
 unfold sK at h
 refine pq aN Tryz.func306 rfl fun w X hC=> ?_
 refine rq hC [.z (.b (true)),.z (.nat 20)] [3,6] [(3,V.tp (cI e)),(6,V.ref 20 0)] [(20,sc [vI 0,vI 0,V.t T.nilS,vI 0,vS [],V.t T.nilS,V.t T.nilS])] [(20,true)] (rq hC [] (fr 7 4) [(7,vI (wr (a*b)))] [] [] (vj h (fun x_=>aZ [(3,V.tp (cI e)),(6,V.ref 20 0),(7,vI x_)] [(20,E.cells [vI 0,vI 0,V.t T.nilS,vI 0,vS [],V.t T.nilS,V.t T.nilS])] [20]) (fun j1 h=> ?_) (fun x2 h=> ?_)))
 ·
  refine rq hC [] [11,12] [(12,vI e.kind)] [] [] (qb (rq hC [] [13,14] [(13,vB (decide (e.kind=4)))] [] [] (aP h (fun c1 h=> ?_) (fun c1 h=> ?_))))
  ·exact rk hC [] [7,15,16,17] [(7,vI (wr (a+b)))] [] [] (lE h)
  ·refine rq hC [] [18,19] [(18,vB (decide (e.kind=5)))] [] [] (aP h (fun c2 h=> ?_) (fun c2 h=> ?_))
   ·exact rk hC [] [7,20,21,22] [(7,vI (wr (a-b)))] [] [] (lE h)
   ·exact qk (lE h)
 ·refine qs (vj h (fun x_=>aZ [(3,V.tp (cI e)),(6,V.ref 20 0),(7,vI x2),(28,vB x_)] [(20,E.cells [vI 0,vI 0,V.t T.nilS,vI 0,vS [],V.t T.nilS,V.t T.nilS])] [20]) (fun j3 h=> ?_) (fun x4 h=> ?_))
  ·
   refine aO h (fun c3 h=> ?_) (fun c3 h=> ?_)
   ·exact rk hC (rF 3 c3) (fr 23 6) [(28,vB (decide ((99:Int)<x2)))] [] [] (lE h)
   ·exact rk hC (rT 3 c3) (fr 23 6) [(28,vB true)] [] [] (lE h)
  ·refine aP h (fun c4 h=> ?_) (fun c4 h=> ?_)
   ·obtain rfl:=so h
    exact rq hC [] [29] [] [(20,some (E.cells (aT e)))] [] (qr eR)
   ·refine qk ?_
    obtain⟨x5,hx5,h⟩:=bd h
    obtain rfl:=so h
    exact rq hC [oV (q9 G hx5)] [30,31] [] [(20,some (E.cells (aT x5)))] [] (qr eR)
theorem lM{e}{n_a1}{r}(h:lO n e n_a1=some r):PQ G 307 [V.agg (aT e),vI n_a1] (vB r):=by
 unfold lO at h
 refine pq aN Tryz.func307 rfl fun w X hC=> ?_
 refine rq hC [.z (.b (true))] [2,4] [(2,V.tp (cI e))] [] [] (vj h (fun x_=>aZ [(4,vB x_)] [] []) (fun j1 h=> ?_) (fun x2 h=> ?_))
 ·
  refine aO h (fun c1 h=> ?_) (fun c1 h=> ?_)
  ·exact rk hC (rF 5 c1) (fr 4 10) [(4,vB false)] [] [] (lE h)
  ·exact rk hC (rT 5 c1) (fr 4 10) [(4,vB (decide (e.num=n_a1)))] [] [] (lE h)
 ·obtain rfl:=so h
  exact qr eR
theorem aBg{e}{r}(h:m5 n e=some r):PQ G 248 [V.agg (aT e)] (V.agg (aT r)):=by
 unfold m5 at h
 refine pq aN Tryz.func248 rfl fun w X hC=> ?_
 refine rq hC [.z (.b (true)),.z (.nat 20)] [1,2] [(1,V.tp (cI e)),(2,V.ref 20 0)] [(20,sc [vI 0,vI 0,V.t T.nilS,vI 0,vS [],V.t T.nilS,V.t T.nilS])] [(20,true)] (qs (vj h (fun x_=>aZ [(1,V.tp (cI e)),(2,V.ref 20 0),(19,vB x_)] [(20,E.cells [vI 0,vI 0,V.t T.nilS,vI 0,vS [],V.t T.nilS,V.t T.nilS])] [20]) (fun j1 h=> ?_) (fun x3 h=> ?_)))
 ·
  refine aO h (fun c1 h=> ?_) (fun c1 h=> ?_)
  ·exact rk hC (rF 5 c1++sF 5) (fr 5 15) [(19,vB false)] [] [] (lE h)
  ·obtain⟨x2,hx2,h⟩:=bd h
   refine aO h (fun c2 h=> ?_) (fun c2 h=> ?_)
   ·exact rk hC (rT 3 c1++[oV (mA G hx2),oT c1,oT c1]++rF 5 c2) (fr 5 15) [(19,vB false)] [] [] (lE h)
   ·exact rk hC (rT 3 c1++[oV (mA G hx2),oT c1,oT c1]++rT 5 c2) (fr 5 15) [(19,vB (decide ((0:Int)≤e.index.const)))] [] [] (lE h)
 ·refine aP h (fun c3 h=> ?_) (fun c3 h=> ?_)
  ·obtain⟨x4,hx4,h⟩:=bd h
   obtain rfl:=so h
   exact rq hC [oV (q9 G hx4)] (fr 20 4) [] [(20,some (E.cells (aT x4)))] [] (qr eR)
  ·refine qk (qs (rq hC [oN aH e.kids] (fr 24 4) [(27,vB (decide ((e.kids.length:Int)=0)))] [] [] (aP h (fun c4 h=> ?_) (fun c4 h=> ?_))))
   ·obtain rfl:=so h
    exact rq hC [] [28] [] [(20,some (E.cells (aT e)))] [] (qr eR)
   ·refine qk ?_
    obtain⟨x5,hx5,h⟩:=bd h
    refine rq hC [.z (.row (cY x5)),.z (.nat 21),oQ (dG aH hx5 (bW x5))] [3,29,30,31,32] [(3,V.ref 21 0)] [(21,some (E.cells (aT x5)))] [(21,true)] ?_
    obtain⟨x6,hx6,h⟩:=bd h
    refine rq hC [.z (.row (cY x6)),.z (.nat 22),oQ (dG aH hx6 (bW x6))] [4,33,34,35,36] [(4,V.ref 22 0)] [(22,some (E.cells (aT x6)))] [(22,true)] (qs (qb (vj h (fun x_=>aZ [(1,V.tp (cI e)),(2,V.ref 20 0),(3,V.ref 21 0),(4,V.ref 22 0),(37,vB x_)] [(20,E.cells [vI 0,vI 0,V.t T.nilS,vI 0,vS [],V.t T.nilS,V.t T.nilS]),(21,E.cells (aT x5)),(22,E.cells (aT x6))] [20,21,22]) (fun j7 h=> ?_) (fun x8 h=> ?_))))
    ·
     refine aO h (fun c5 h=> ?_) (fun c5 h=> ?_)
     ·exact rk hC (rF 4 c5) (fr 37 9) [(37,vB false)] [] [] (lE h)
     ·exact rk hC (rT 4 c5) (fr 37 9) [(37,vB (decide (x6.kind=1)))] [] [] (lE h)
    ·refine aP h (fun c6 h=> ?_) (fun c6 h=> ?_)
     ·obtain⟨x9,hx9,h⟩:=bd h
      obtain rfl:=so h
      exact rq hC [oV (aCG G hx9)] (fr 46 6) [] [(20,some (E.cells (aT x9)))] [] (qr eR)
     ·refine vj h (fun x_=>aZ [(1,V.tp (cI e)),(2,V.ref 20 0),(3,V.ref 21 0),(4,V.ref 22 0),(52,vB x_)] [(20,E.cells [vI 0,vI 0,V.t T.nilS,vI 0,vS [],V.t T.nilS,V.t T.nilS]),(21,E.cells (aT x5)),(22,E.cells (aT x6))] [20,21,22]) (fun j10 h=> ?_) (fun x15 h=> ?_)
      ·
       refine vj h (fun x_=>aZ [(1,V.tp (cI e)),(2,V.ref 20 0),(3,V.ref 21 0),(4,V.ref 22 0),(52,vB x_)] [(20,E.cells [vI 0,vI 0,V.t T.nilS,vI 0,vS [],V.t T.nilS,V.t T.nilS]),(21,E.cells (aT x5)),(22,E.cells (aT x6))] [20,21,22]) (fun j11 h=> ?_) (fun x13 h=> ?_)
       ·
        refine aO h (fun c7 h=> ?_) (fun c7 h=> ?_)
        ·exact rk hC (rF 3 c7) (fr 52 8) [(52,vB false)] [] [] (lE h)
        ·obtain⟨x12,hx12,h⟩:=bd h
         exact rk hC [oT c7,oT c7,oV (lM G hx12),oT c7] (fr 52 8) [(52,vB x12)] [] [] (lE h)
       ·refine aP h (fun c8 h=> ?_) (fun c8 h=> ?_)
        ·exact qk (lE h)
        ·refine aO h (fun c9 h=> ?_) (fun c9 h=> ?_)
         ·exact rk hC (rF 3 c9) [52,60,61,62,63,64,65,66] [(52,vB false)] [] [] (lE h)
         ·obtain⟨x14,hx14,h⟩:=bd h
          exact rk hC [oT c9,oT c9,oV (lM G hx14),oT c9] [52,60,61,62,63,64,65,66] [(52,vB x14)] [] [] (lE h)
      ·refine aP h (fun c10 h=> ?_) (fun c10 h=> ?_)
       ·obtain rfl:=so h
        exact rq hC [] [67] [] [(20,some (E.cells (aT x5)))] [] (qr eR)
       ·refine vj h (fun x_=>aZ [(1,V.tp (cI e)),(2,V.ref 20 0),(3,V.ref 21 0),(4,V.ref 22 0),(68,vB x_)] [(20,E.cells [vI 0,vI 0,V.t T.nilS,vI 0,vS [],V.t T.nilS,V.t T.nilS]),(21,E.cells (aT x5)),(22,E.cells (aT x6))] [20,21,22]) (fun j16 h=> ?_) (fun x21 h=> ?_)
        ·
         refine vj h (fun x_=>aZ [(1,V.tp (cI e)),(2,V.ref 20 0),(3,V.ref 21 0),(4,V.ref 22 0),(68,vB x_)] [(20,E.cells [vI 0,vI 0,V.t T.nilS,vI 0,vS [],V.t T.nilS,V.t T.nilS]),(21,E.cells (aT x5)),(22,E.cells (aT x6))] [20,21,22]) (fun j17 h=> ?_) (fun x19 h=> ?_)
         ·
          refine aO h (fun c11 h=> ?_) (fun c11 h=> ?_)
          ·exact rk hC (rF 3 c11) (fr 68 8) [(68,vB false)] [] [] (lE h)
          ·obtain⟨x18,hx18,h⟩:=bd h
           exact rk hC [oT c11,oT c11,oV (lM G hx18),oT c11] (fr 68 8) [(68,vB x18)] [] [] (lE h)
         ·refine aP h (fun c12 h=> ?_) (fun c12 h=> ?_)
          ·exact qk (lE h)
          ·refine aO h (fun c13 h=> ?_) (fun c13 h=> ?_)
           ·exact rk hC (rF 3 c13) [68,76,77,78,79,80,81,82] [(68,vB false)] [] [] (lE h)
           ·obtain⟨x20,hx20,h⟩:=bd h
            exact rk hC [oT c13,oT c13,oV (lM G hx20),oT c13] [68,76,77,78,79,80,81,82] [(68,vB x20)] [] [] (lE h)
        ·refine aP h (fun c14 h=> ?_) (fun c14 h=> ?_)
         ·obtain rfl:=so h
          exact rq hC [] [83] [] [(20,some (E.cells (aT x6)))] [] (qr eR)
         ·refine vj h (fun x_=>aZ [(1,V.tp (cI e)),(2,V.ref 20 0),(84,vB x_)] [(20,E.cells [vI 0,vI 0,V.t T.nilS,vI 0,vS [],V.t T.nilS,V.t T.nilS]),(21,E.cells (aT x5)),(22,E.cells (aT x6))] [20,21,22]) (fun j22 h=> ?_) (fun x25 h=> ?_)
          ·
           refine aO h (fun c15 h=> ?_) (fun c15 h=> ?_)
           ·exact rk hC (rF 5 c15) (fr 84 12) [(84,vB false)] [] [] (lE h)
           ·obtain⟨x23,hx23,h⟩:=bd h
            refine aO h (fun c16 h=> ?_) (fun c16 h=> ?_)
            ·obtain⟨x24,hx24,h⟩:=bd h
             exact rk hC [oT c15,oT c15,oV (lM G hx23),oT c15,oF c16,oF c16,oV (lM G hx24),oT c15,oF c16,oT c15] (fr 84 12) [(84,vB x24)] [] [] (lE h)
            ·exact rk hC [oT c15,oT c15,oV (lM G hx23),oT c15,oT c16,oT c16,oT c15,oT c16,oT c15] (fr 84 12) [(84,vB true)] [] [] (lE h)
          ·refine aP h (fun c17 h=> ?_) (fun c17 h=> ?_)
           ·obtain⟨x26,hx26,h⟩:=bd h
            obtain rfl:=so h
            exact rq hC [oV (q9 G hx26)] [96] [] [(20,some (E.cells (aT x26)))] [] (qr eR)
           ·obtain rfl:=so h
            exact qk (rq hC [] [97] [] [(20,some (E.cells (aT e)))] [] (qr eR))
theorem aBh(G:GS): ∀(n:Nat) (e:Expr) {r:Expr} (h:s_l13Fold n e=some r),PQ G 167 [V.agg (aT e)] (V.agg (aT r)):=by
 intro n
 induction n with
 |zero=>intro e r h;rw [s_l13Fold.eq_def] at h;cases h
 |succ n ih=>
  intro e r h
  rw [s_l13Fold.eq_def] at h;dsimp only at h
  refine pq aN Tryz.func167 rfl fun w X hC=> ?_
  refine rq hC [.z (.b (true)),.z (.nat 20)] [1,2] [(1,V.tp (cI e)),(2,V.ref 20 0)] [(20,sc [vI 0,vI 0,V.t T.nilS,vI 0,vS [],V.t T.nilS,V.t T.nilS])] [(20,true)] (qs ?_)
  obtain⟨x1,hx1,x2,hx2,h⟩:=dS h
  refine dk hC bQ [oC [] [21] (lJ G hx1),oC [] [22] (fU G hx2),.z (.nat 23)] [3,5,6,7,8,9,10,11,12,13,14,15] [(3,V.ref 23 0)] [(21,some (ar 3 1 1 rI x1.coefs)),(22,some (ar 79 1 2 aB x2.subs)),(23,sc [vI e.kind,vI e.num,ms 21 1 1 rI x1.coefs,vI x1.const,vS x2.array,ms 22 1 2 aB x2.subs,V.t T.nilS])] [(21,true),(22,true),(23,true)] (qs (rq hC [] [4] [(4,vI 0)] [] [] (qb (qw (lk hC [.growc 23 6 24 82] [] [] [(24,some (ar 82 1 7 aH [])),(23,sc [vI e.kind,vI e.num,ms 21 1 1 rI x1.coefs,vI x1.const,vS x2.array,ms 22 1 2 aB x2.subs,ms 24 1 7 aH []])] [(24,true)]) (bF (γ:=Nat) h (fun x_ g_=>aZ [(1,V.tp (cI e)),(2,V.ref 20 0),(3,V.ref 23 0),(4,vI x_.2)] [(20,E.cells [vI 0,vI 0,V.t T.nilS,vI 0,vS [],V.t T.nilS,V.t T.nilS]),(21,ar 3 1 1 rI x1.coefs),(22,ar 79 1 2 aB x2.subs),(23,E.cells [vI e.kind,vI e.num,ms 21 1 1 rI x1.coefs,vI x1.const,vS x2.array,ms 22 1 2 aB x2.subs,ms 24 g_ 7 aH x_.1]),(24,ar 82 g_ 7 aH x_.1)] [20,21,22,23,24]) 1 (lS) ?_)))))
  rintro again6 ⟨x3,x4⟩ g5 h
  refine qs (rq hC [oN aH e.kids] (fr 16 5) [(20,vB (decide (x4<(e.kids.length:Int))))] [] [] (aP h (fun c1 h=> ?_) (fun c1 h=> ?_)))
  ·refine qk (qs (qb ?_))
   obtain⟨x7,hx7,x8,hx8,x9,hx9,h⟩:=mL h
   exact dk hC bQ [.z (.row (cY x7)),oQ (dG aH hx7 (bW x7)),oV (ih x7 hx8),.z (.int 2),.z (.rows (List.map aH [x8])),oQ (qX x8),oA (aQ aH hx9),oQ (cE (r:=aH) 7 dU x3),oQ (cE (r:=aH) 7 dU [x8])] (fr 23 11) [] [(24,some (ar 82 (g5+1) 7 aH x9)),(23,sc [vI e.kind,vI e.num,ms 21 1 1 rI x1.coefs,vI x1.const,vS x2.array,ms 22 1 2 aB x2.subs,ms 24 (g5+1) 7 aH x9])] [] (rk hC [] [4,21,22] [(4,vI (wr (x4+1)))] [] [] ⟨(x9,wr (x4+1)),(g5+1),h,lS⟩)
  ·refine dB ?_
   obtain⟨x10,hx10,h⟩:=bd h
   obtain rfl:=so h
   exact rq hC [.z (.at 3),.z (.fz 21 [] [23]),.z (.at 3),.z (.fz 22 [] [23]),.z (.at 3),.z (.fz 24 [] [23]),oV (aBg G hx10)] [34,35] [] [(23,sc [vI e.kind,vI e.num,vM rI x1.coefs,vI x1.const,vS x2.array,vM aB x2.subs,vM aH x3]),(21,none),(22,none),(24,none),(20,some (E.cells (aT x10)))] [] (qr eR)
theorem Y0{s}{r}(h:nO n s=some r):PQ G 70 [V.agg (cD s)] (V.tup [V.agg (cD r.1),vB r.2]):=by
 unfold nO at h
 refine pq aN Tryz.func70 rfl fun w X hC=> ?_
 refine rq hC [.z (.b (true)),.z (.nat 20)] [1,2,3] [(1,V.tp (mI s)),(2,V.ref 20 0)] [(20,sc [vS [],V.t T.nilS,vI 0,vI 0,V.t T.nilS,vI 0,vS [],V.t T.nilS,V.t T.nilS])] [(20,true)] (qs ?_)
 obtain⟨x1,hx1,h⟩:=bd h
 refine rq hC [oV (lR G hx1)] [4,5,6] [(6,vB (!x1))] [] [] (aP h (fun c1 h=> ?_) (fun c1 h=> ?_))
 ·obtain rfl:=so h
  exact rq hC [] [3,7] [(3,vB false)] [(20,sc [vS [],V.t T.nilS,vI 0,vI 0,V.t T.nilS,vI 0,vS [],V.t T.nilS,V.t T.nilS])] [] (qr eR)
 ·refine qk (qs ?_)
  obtain⟨x2,hx2,x3,hx3,h⟩:=dS h
  obtain rfl:=so h
  exact dk hC bQ [oC [] [21] (fU G hx2),oV (aBh G n s.value hx3)] [3,8,9,10,11,12,13,14] [(3,vB true)] [(21,some (ar 79 1 2 aB x2.subs)),(20,sc [vS x2.array,ms 21 1 2 aB x2.subs,vI x3.kind,vI x3.num,vM rI x3.index.coefs,vI x3.index.const,vS x3.read.array,vM aB x3.read.subs,vM aH x3.kids])] [(21,true)] (qw (lk hC [.fz 21 [] [20]] [] [] [(20,sc [vS x2.array,vM aB x2.subs,vI x3.kind,vI x3.num,vM rI x3.index.coefs,vI x3.index.const,vS x3.read.array,vM aB x3.read.subs,vM aH x3.kids]),(21,none)] []) (qr eR))
theorem zP{p}{r}(h:iT n p=some r):PQ G 17 [V.agg (bM p)] (V.tup [V.agg (bM r.1),vB r.2]):=by
 unfold iT at h
 refine pq aN Tryz.func17 rfl fun w X hC=> ?_
 refine rq hC [.z (.nat 20),.z (.nat 21)] [1,2,3] [(1,V.ref 20 0),(2,V.ref 21 0)] [(20,some (E.cells (bM p))),(21,sc [V.t T.nilS,V.t T.nilS])] [(20,true),(21,true)] ?_
 obtain⟨x1,hx1,h⟩:=bd h
 refine rq hC [oV (wS G hx1)] [9,10] [] [(20,some (E.cells (bM x1)))] [] (qs ?_)
 obtain⟨x2,hx2,h⟩:=bd h
 refine rq hC [oV (iJ G hx2)] [11,12,13] [(13,vB (!x2))] [] [] (aP h (fun c1 h=> ?_) (fun c1 h=> ?_))
 ·obtain rfl:=so h
  exact rq hC [] [3,14] [(3,vB false)] [(21,sc [V.t T.nilS,V.t T.nilS])] [] (qr eR)
 ·refine qk ?_
  obtain⟨x3,hx3,h⟩:=bd h
  refine rq hC [oC [] [22,23] (uY G hx3),.z (.nat 24)] [4,15,16] [(4,V.ref 24 0)] [(22,some (ar 90 1 2 aK x3.arrays)),(23,some (E.tree fW 2 1 (List.map aC x3.parts) [])),(24,sc [ms 22 1 2 aK x3.arrays,ms 23 1 2 aC x3.parts])] [(22,true),(23,true),(24,true)] (qs (rq hC [] [5] [(5,vI 0)] [] [] (qb (bF (γ:=Nat) h (fun x_ g_=>aZ [(2,V.ref 21 0),(4,V.ref 24 0),(5,vI x_.2)] [(20,E.cells (bM x1)),(21,E.cells [V.t T.nilS,V.t T.nilS]),(22,ar 90 1 2 aK x3.arrays),(23,E.tree fW 2 g_ (List.map aC x_.1) []),(24,E.cells [ms 22 1 2 aK x3.arrays,ms 23 g_ 2 aC x_.1])] [20,21,22,23,24]) 1 (lS) ?_))))
  rintro again7 ⟨x4,x5⟩ g6 h
  refine qs (rq hC [oN aC x4] (fr 17 5) [(21,vB (decide (x5<(x4.length:Int))))] [] [] (aP h (fun c2 h=> ?_) (fun c2 h=> ?_)))
  ·refine qk (qs (qb (rq hC [] [6] [(6,vI 0)] [] [] (qb (bF (γ:=Nat) h (fun x_ g_=>aZ [(2,V.ref 21 0),(4,V.ref 24 0),(5,vI x5),(6,vI x_.2)] [(20,E.cells (bM x1)),(21,E.cells [V.t T.nilS,V.t T.nilS]),(22,ar 90 1 2 aK x3.arrays),(23,E.tree fW 2 g_ (List.map aC x_.1) []),(24,E.cells [ms 22 1 2 aK x3.arrays,ms 23 g_ 2 aC x_.1])] [20,21,22,23,24]) g6 (lS) ?_)))))
   rintro again11 ⟨x8,x9⟩ g10 h
   refine qs (qs ?_)
   obtain⟨x12,hx12,h⟩:=bd h
   refine qw (xA hC [.foc 23 25 (0+Int.toNat x5) 1 (aC x12),.shd 25] [] [] [(23,some (E.tree fW 2 g10 (List.map aC x8) [((0+Int.toNat x5),1,ms 25 1 9 aG x12.body)])),(25,some (ar 84 1 9 aG x12.body))] [(25,true)] (a1 (tR aC hx12)) (by kernel_rfl)) (rk hC [oQ (mJ aC hx12),oX aC hx12,oN aG x12.body] (fr 24 9) [(32,vB (decide (x9<(x12.body.length:Int))))] [] [] (qw (xA hC [.tre 25 fW 3,.unf 23 25 (aC x12) (List.map aC x8)] [] [] [(25,none),(23,some (E.tree fW 2 g10 (List.map aC x8) []))] [] (a4 (Eq.refl (List.map aG x12.body).length) (Eq.refl fW) (tR aC hx12) (yP aC hx12 rfl)) (by kernel_rfl)) (aP h (fun c3 h=> ?_) (fun c3 h=> ?_))))
   ·refine qk (qs (qb (qs (qw (xA hC [.foc 23 26 (0+Int.toNat x5) 1 (aC x12),.shd 26] [] [] [(23,some (E.tree fW 2 g10 (List.map aC x8) [((0+Int.toNat x5),1,ms 26 1 9 aG x12.body)])),(26,some (ar 84 1 9 aG x12.body))] [(26,true)] (a1 (tR aC hx12)) (by kernel_rfl)) ?_))))
    obtain⟨x13,hx13,x14,hx14,h⟩:=dS h
    refine rk hC [oQ (mJ aC hx12),oX aC hx12,oQ (mJ aG hx13),oX aG hx13,oV (Y0 G hx14),.z (.nat 27)] [7,8,35,36,37,38,39,40,41,42,43,44,45,46,47] [(7,V.ref 27 0)] [(27,some (E.cells (cD x14.1)))] [(27,true)] (qw (xA hC [.tre 26 fW 3,.unf 23 26 (aC x12) (List.map aC x8)] [] [] [(26,none),(23,some (E.tree fW 2 g10 (List.map aC x8) []))] [] (a4 (Eq.refl (List.map aG x12.body).length) (Eq.refl fW) (tR aC hx12) (yP aC hx12 rfl)) (by kernel_rfl)) (qw (xA hC [.foc 23 28 (0+Int.toNat x5) 1 (aC x12),.shd 28] [] [] [(23,some (E.tree fW 2 g10 (List.map aC x8) [((0+Int.toNat x5),1,ms 28 1 9 aG x12.body)])),(28,some (ar 84 1 9 aG x12.body))] [(28,true)] (a1 (tR aC hx12)) (by kernel_rfl)) ?_))
    obtain⟨x15,hx15,h⟩:=bd h
    refine dk hC bQ [oQ (mJ aC hx12),oX aC hx12,oQ (mJ aG hx13),oX aG hx13,.z (.rows (List.map aG x15)),oQ (str aG hx15)] (fr 48 9) [] [(28,some (ar 84 1 9 aG x15))] [] ?_
    obtain⟨x16,hx16,h⟩:=bd h
    exact qw (xA hC [.tre 28 fW 3,.unf 23 28 (aC x12) (List.map aC x16),.lenc 24 1 (List.map aC x16).length] [] [] [(28,none),(23,some (E.tree fW 2 g10 (List.map aC x16) [])),(24,sc [ms 22 1 2 aK x3.arrays,ms 23 g10 2 aC x16])] [] (a5 (nU aG hx15) (Eq.refl fW) (tR aC hx12) (aAr aC hx16 rfl) (nU aC hx16)) (by kernel_rfl)) (rk hC [] [6,33,34] [(6,vI (wr (x9+1)))] [] [] ⟨(x16,wr (x9+1)),g10,h,lS⟩)
   ·exact dB (rk hC [] [5,22,23] [(5,vI (wr (x5+1)))] [] [] ⟨(x8,wr (x5+1)),g10,h,lS⟩)
  ·obtain rfl:=so h
   exact dB (rq hC [.z (.at 3),.z (.fz 22 [] [24]),.z (.at 3),.z (.shd 23),.z (.at 3),.z (.fz 23 [] [24])] [3,57] [(3,vB true)] [(24,sc [vM aK x3.arrays,vM aC x4]),(22,none),(23,none),(21,sc [vM aK x3.arrays,vM aC x4])] [] (qr eR))
theorem vF(G:GS)(n:Nat)(s1:List Loop)(s2:List Loop)(eqF:FuncId)(eq:Loop→Loop→Option Bool)(heq: ∀(q0:Loop) (q1:Loop) r,eq q0 q1=some r→PQ G eqF [V.agg (mB q0),V.agg (mB q1)] (vB r)){r:Bool}(h:iF n s1 s2 eq=some r):PQ G 168 [vM aD s1,vM aD s2,V.fn eqF []] (vB r):=by
 unfold iF at h
 refine pq aN Tryz.func168 rfl fun w X hC=> ?_
 refine rq hC [] [6] [] [] [] (qs (rq hC [oN aD s1,oN aD s2] (fr 10 5) [(14,vB (!decide ((s1.length:Int)=(s2.length:Int))))] [] [] (aP h (fun c1 h=> ?_) (fun c1 h=> ?_))))
 ·obtain rfl:=so h
  exact rq hC [] [6] [(6,vB false)] [] [] (qr eR)
 ·refine qk (qs (rq hC [oN aD s1] [15,16,17] [(15,vM aD s1),(16,vI (s1.length:Int)),(17,vI 0)] [] [] (qb (kR h (fun x_=>aZ [(1,vM aD s2),(2,V.fn eqF []),(15,vM aD s1),(16,vI (s1.length:Int)),(17,vI x_)] [] []) lS ?_))))
  rintro again2 x1 h
  refine rq hC [] [18] [(18,vB (decide (x1<(s1.length:Int))))] [] [] (qs (aP h (fun c2 h=> ?_) (fun c2 h=> ?_)))
  ·refine qk (qs (qb ?_))
   obtain⟨x3,hx3,h⟩:=bd h
   refine rq hC [oR aD hx3,.z (.nat 20)] [7,8,19,20,21] [(7,vI x1),(8,V.ref 20 0)] [(20,some (E.cells (mB x3)))] [(20,true)] ?_
   obtain⟨x4,hx4,h⟩:=bd h
   refine rq hC [oR aD hx4,.z (.nat 21)] [9,22,23,24,25] [(9,V.ref 21 0)] [(21,some (E.cells (mB x4)))] [(21,true)] ?_
   obtain⟨x5,hx5,h⟩:=bd h
   refine rq hC [oV (heq x3 x4 _ hx5)] (fr 26 5) [(30,vB (!x5))] [] [] (aP h (fun c3 h=> ?_) (fun c3 h=> ?_))
   ·obtain rfl:=so h
    exact rq hC [] [6] [(6,vB false)] [] [] (qr eR)
   ·exact qk (rk hC [] [17,31] [(17,vI (wr (x1+1)))] [] [] (lE h))
  ·obtain rfl:=so h
   exact dB (rq hC [] [6] [(6,vB true)] [] [] (qr eR))
theorem fD(G:GS)(n:Nat)(s1:List Affine)(s2:List Affine)(eqF:FuncId)(eq:Affine→Affine→Option Bool)(heq: ∀(q0:Affine) (q1:Affine) r,eq q0 q1=some r→PQ G eqF [V.agg (aR q0),V.agg (aR q1)] (vB r)){r:Bool}(h:cN n s1 s2 eq=some r):PQ G 170 [vM aB s1,vM aB s2,V.fn eqF []] (vB r):=by
 unfold cN at h
 refine pq aN Tryz.func170 rfl fun w X hC=> ?_
 refine rq hC [] [6] [] [] [] (qs (rq hC [oN aB s1,oN aB s2] (fr 10 5) [(14,vB (!decide ((s1.length:Int)=(s2.length:Int))))] [] [] (aP h (fun c1 h=> ?_) (fun c1 h=> ?_))))
 ·obtain rfl:=so h
  exact rq hC [] [6] [(6,vB false)] [] [] (qr eR)
 ·refine qk (qs (rq hC [oN aB s1] [15,16,17] [(15,vM aB s1),(16,vI (s1.length:Int)),(17,vI 0)] [] [] (qb (kR h (fun x_=>aZ [(1,vM aB s2),(2,V.fn eqF []),(15,vM aB s1),(16,vI (s1.length:Int)),(17,vI x_)] [] []) lS ?_))))
  rintro again2 x1 h
  refine rq hC [] [18] [(18,vB (decide (x1<(s1.length:Int))))] [] [] (qs (aP h (fun c2 h=> ?_) (fun c2 h=> ?_)))
  ·refine qk (qs (qb ?_))
   obtain⟨x3,hx3,h⟩:=bd h
   refine rq hC [oR aB hx3,.z (.nat 20)] [7,8,19,20,21] [(7,vI x1),(8,V.ref 20 0)] [(20,some (E.cells (aR x3)))] [(20,true)] ?_
   obtain⟨x4,hx4,h⟩:=bd h
   refine rq hC [oR aB hx4,.z (.nat 21)] [9,22,23,24,25] [(9,V.ref 21 0)] [(21,some (E.cells (aR x4)))] [(21,true)] ?_
   obtain⟨x5,hx5,h⟩:=bd h
   refine rq hC [oV (heq x3 x4 _ hx5)] (fr 26 5) [(30,vB (!x5))] [] [] (aP h (fun c3 h=> ?_) (fun c3 h=> ?_))
   ·obtain rfl:=so h
    exact rq hC [] [6] [(6,vB false)] [] [] (qr eR)
   ·exact qk (rk hC [] [17,31] [(17,vI (wr (x1+1)))] [] [] (lE h))
  ·obtain rfl:=so h
   exact dB (rq hC [] [6] [(6,vB true)] [] [] (qr eR))
theorem o9{s1}{s2}{r}(h:jK n s1 s2=some r):PQ G 72 [vM rI s1,vM rI s2] (vB r):=by
 unfold jK at h
 refine pq aN Tryz.func72 rfl fun w X hC=> ?_
 refine rq hC [] [4] [] [] [] (qs (rq hC [oN rI s1,oN rI s2] (fr 6 5) [(10,vB (!decide ((s1.length:Int)=(s2.length:Int))))] [] [] (aP h (fun c1 h=> ?_) (fun c1 h=> ?_))))
 ·obtain rfl:=so h
  exact rq hC [] [4] [(4,vB false)] [] [] (qr eR)
 ·refine qk (qs (rq hC [oN rI s1] [11,12,13] [(12,vI (s1.length:Int)),(13,vI 0)] [] [] (qb (kR h (fun x_=>aZ [(0,vM rI s1),(1,vM rI s2),(12,vI (s1.length:Int)),(13,vI x_)] [] []) lS ?_))))
  rintro again2 x1 h
  refine rq hC [] [14] [(14,vB (decide (x1<(s1.length:Int))))] [] [] (qs (aP h (fun c2 h=> ?_) (fun c2 h=> ?_)))
  ·refine qk (qs (qb (rq hC [] [5,15] [(5,vI x1)] [] [] (qs ?_))))
   obtain⟨x3,hx3,x4,hx4,h⟩:=dS h
   refine dk hC bQ [oR rI hx3,oR rI hx4] (fr 16 9) [(24,vB (!decide (x3=x4)))] [] [] (aP h (fun c3 h=> ?_) (fun c3 h=> ?_))
   ·obtain rfl:=so h
    exact rq hC [] [4] [(4,vB false)] [] [] (qr eR)
   ·exact qk (rk hC [] [13,25] [(13,vI (wr (x1+1)))] [] [] (lE h))
  ·obtain rfl:=so h
   exact dB (rq hC [] [4] [(4,vB true)] [] [] (qr eR))
theorem eM(G:GS)(n:Nat)(a:Affine)(b:Affine){r:Bool}(h:b8 n a b=some r):PQ G 171 [V.agg (aR a),V.agg (aR b)] (vB r):=by
 unfold b8 at h
 refine pq aN Tryz.func171 rfl fun w X hC=> ?_
 refine rq hC [.z (.b (true)),.z (.b (true))] [2,3,4] [(2,V.tp (bK a)),(3,V.tp (bK b))] [] [] (vj h (fun x_=>aZ [(4,vB x_)] [] []) (fun j1 h=> ?_) (fun x3 h=> ?_))
 ·
  obtain⟨x2,hx2,h⟩:=bd h
  refine aO h (fun c1 h=> ?_) (fun c1 h=> ?_)
  ·exact rk hC ([oV (o9 G hx2)]++rF 6 c1) (fr 4 13) [(4,vB false)] [] [] (lE h)
  ·exact rk hC ([oV (o9 G hx2)]++rT 6 c1) (fr 4 13) [(4,vB (decide (a.const=b.const)))] [] [] (lE h)
 ·obtain rfl:=so h
  exact qr eR
theorem L0(G:GS)(n:Nat)(x:Loop)(y:Loop){r:Bool}(h:kH n x y=some r):PQ G 169 [V.agg (mB x),V.agg (mB y)] (vB r):=by
 unfold kH at h
 refine pq aN Tryz.func169 rfl fun w X hC=> ?_
 refine rq hC [.z (.b (true)),.z (.b (true))] [2,3,4] [(2,V.tp (vR x)),(3,V.tp (vR y))] [] [] (vj h (fun x_=>aZ [(4,vB x_)] [] []) (fun j1 h=> ?_) (fun x4 h=> ?_))
 ·
  obtain⟨x2,hx2,h⟩:=bd h
  refine aO h (fun c1 h=> ?_) (fun c1 h=> ?_)
  ·exact rk hC ([oV (fD G n x.lo y.lo 171 (fun q0 q1=>b8 n q0 q1) (fun q0 q1 r h=>eM G n q0 q1 h) hx2)]++rF 6 c1) (fr 4 13) [(4,vB false)] [] [] (lE h)
  ·obtain⟨x3,hx3,h⟩:=bd h
   exact rk hC ([oV (fD G n x.lo y.lo 171 (fun q0 q1=>b8 n q0 q1) (fun q0 q1 r h=>eM G n q0 q1 h) hx2)]++rT 5 c1++[oV (fD G n x.hi y.hi 171 (fun q0 q1=>b8 n q0 q1) (fun q0 q1 r h=>eM G n q0 q1 h) hx3),oT c1]) (fr 4 13) [(4,vB x3)] [] [] (lE h)
 ·obtain rfl:=so h
  exact qr eR
theorem wZ{a}{b}{r}(h:nY n a b=some r):PQ G 74 [vM aD a,vM aD b] (vB r):=by
 unfold nY at h
 refine pq aN Tryz.func74 rfl fun w X hC=> ?_
 refine rq hC [] [4] [] [] [] ?_
 obtain⟨x1,hx1,h⟩:=bd h
 obtain rfl:=so h
 exact rq hC [oV (vF G n a b 169 (fun q0 q1=>kH n q0 q1) (fun q0 q1 r h=>L0 G n q0 q1 h) hx1)] (fr 4 4) [(4,vB x1)] [] [] (qr eR)
theorem vD(G:GS)(n:Nat)(s1:List Stmt)(s2:List Stmt)(eqF:FuncId)(eq:Stmt→Stmt→Option Bool)(heq: ∀(q0:Stmt) (q1:Stmt) r,eq q0 q1=some r→PQ G eqF [V.agg (cD q0),V.agg (cD q1)] (vB r)){r:Bool}(h:iD n s1 s2 eq=some r):PQ G 75 [vM aG s1,vM aG s2,V.fn eqF []] (vB r):=by
 unfold iD at h
 refine pq aN Tryz.func75 rfl fun w X hC=> ?_
 refine rq hC [] [6] [] [] [] (qs (rq hC [oN aG s1,oN aG s2] (fr 10 5) [(14,vB (!decide ((s1.length:Int)=(s2.length:Int))))] [] [] (aP h (fun c1 h=> ?_) (fun c1 h=> ?_))))
 ·obtain rfl:=so h
  exact rq hC [] [6] [(6,vB false)] [] [] (qr eR)
 ·refine qk (qs (rq hC [oN aG s1] [15,16,17] [(15,vM aG s1),(16,vI (s1.length:Int)),(17,vI 0)] [] [] (qb (kR h (fun x_=>aZ [(1,vM aG s2),(2,V.fn eqF []),(15,vM aG s1),(16,vI (s1.length:Int)),(17,vI x_)] [] []) lS ?_))))
  rintro again2 x1 h
  refine rq hC [] [18] [(18,vB (decide (x1<(s1.length:Int))))] [] [] (qs (aP h (fun c2 h=> ?_) (fun c2 h=> ?_)))
  ·refine qk (qs (qb ?_))
   obtain⟨x3,hx3,h⟩:=bd h
   refine rq hC [oR aG hx3,.z (.nat 20)] [7,8,19,20,21] [(7,vI x1),(8,V.ref 20 0)] [(20,some (E.cells (cD x3)))] [(20,true)] ?_
   obtain⟨x4,hx4,h⟩:=bd h
   refine rq hC [oR aG hx4,.z (.nat 21)] [9,22,23,24,25] [(9,V.ref 21 0)] [(21,some (E.cells (cD x4)))] [(21,true)] ?_
   obtain⟨x5,hx5,h⟩:=bd h
   refine rq hC [oV (heq x3 x4 _ hx5)] (fr 26 5) [(30,vB (!x5))] [] [] (aP h (fun c3 h=> ?_) (fun c3 h=> ?_))
   ·obtain rfl:=so h
    exact rq hC [] [6] [(6,vB false)] [] [] (qr eR)
   ·exact qk (rk hC [] [17,31] [(17,vI (wr (x1+1)))] [] [] (lE h))
  ·obtain rfl:=so h
   exact dB (rq hC [] [6] [(6,vB true)] [] [] (qr eR))
theorem kN{a}{b}{r}(h:iH n a b=some r):PQ G 172 [V.agg (cW a),V.agg (cW b)] (vB r):=by
 unfold iH at h
 refine pq aN Tryz.func172 rfl fun w X hC=> ?_
 refine rq hC [.z (.b (true)),.z (.b (true))] [2,3,4] [(2,V.tp (d7 a)),(3,V.tp (d7 b))] [] [] (vj h (fun x_=>aZ [(4,vB x_)] [] []) (fun j1 h=> ?_) (fun x3 h=> ?_))
 ·
  refine aO h (fun c1 h=> ?_) (fun c1 h=> ?_)
  ·exact rk hC (rF 6 c1) (fr 4 13) [(4,vB false)] [] [] (lE h)
  ·obtain⟨x2,hx2,h⟩:=bd h
   exact rk hC (rT 5 c1++[oV (fD G n a.subs b.subs 171 (fun q0 q1=>b8 n q0 q1) (fun q0 q1 r h=>eM G n q0 q1 h) hx2),oT c1]) (fr 4 13) [(4,vB x2)] [] [] (lE h)
 ·obtain rfl:=so h
  exact qr eR
theorem vG(G:GS)(n:Nat)(s1:List Expr)(s2:List Expr)(eqF:FuncId)(eq:Expr→Expr→Option Bool)(heq: ∀(q0:Expr) (q1:Expr) r,eq q0 q1=some r→PQ G eqF [V.agg (aT q0),V.agg (aT q1)] (vB r)){r:Bool}(h:iG n s1 s2 eq=some r):PQ G 249 [vM aH s1,vM aH s2,V.fn eqF []] (vB r):=by
 unfold iG at h
 refine pq aN Tryz.func249 rfl fun w X hC=> ?_
 refine rq hC [] [6] [] [] [] (qs (rq hC [oN aH s1,oN aH s2] (fr 10 5) [(14,vB (!decide ((s1.length:Int)=(s2.length:Int))))] [] [] (aP h (fun c1 h=> ?_) (fun c1 h=> ?_))))
 ·obtain rfl:=so h
  exact rq hC [] [6] [(6,vB false)] [] [] (qr eR)
 ·refine qk (qs (rq hC [oN aH s1] [15,16,17] [(15,vM aH s1),(16,vI (s1.length:Int)),(17,vI 0)] [] [] (qb (kR h (fun x_=>aZ [(1,vM aH s2),(2,V.fn eqF []),(15,vM aH s1),(16,vI (s1.length:Int)),(17,vI x_)] [] []) lS ?_))))
  rintro again2 x1 h
  refine rq hC [] [18] [(18,vB (decide (x1<(s1.length:Int))))] [] [] (qs (aP h (fun c2 h=> ?_) (fun c2 h=> ?_)))
  ·refine qk (qs (qb ?_))
   obtain⟨x3,hx3,h⟩:=bd h
   refine rq hC [.z (.row (cY x3)),.z (.nat 20),oQ (dG aH hx3 (bW x3))] [7,8,19,20,21] [(7,vI x1),(8,V.ref 20 0)] [(20,some (E.cells (aT x3)))] [(20,true)] ?_
   obtain⟨x4,hx4,h⟩:=bd h
   refine rq hC [.z (.row (cY x4)),.z (.nat 21),oQ (dG aH hx4 (bW x4))] [9,22,23,24,25] [(9,V.ref 21 0)] [(21,some (E.cells (aT x4)))] [(21,true)] ?_
   obtain⟨x5,hx5,h⟩:=bd h
   refine rq hC [oV (heq x3 x4 _ hx5)] (fr 26 5) [(30,vB (!x5))] [] [] (aP h (fun c3 h=> ?_) (fun c3 h=> ?_))
   ·obtain rfl:=so h
    exact rq hC [] [6] [(6,vB false)] [] [] (qr eR)
   ·exact qk (rk hC [] [17,31] [(17,vI (wr (x1+1)))] [] [] (lE h))
  ·obtain rfl:=so h
   exact dB (rq hC [] [6] [(6,vB true)] [] [] (qr eR))
theorem Y3(G:GS): ∀(n:Nat) (a:Expr) (b:Expr) {r:Bool} (h:i_exprSame n a b=some r),PQ G 173 [V.agg (aT a),V.agg (aT b)] (vB r):=by
 intro n
 induction n with
 |zero=>intro a b r h;rw [i_exprSame.eq_def] at h;cases h
 |succ n ih=>
  intro a b r h
  rw [i_exprSame.eq_def] at h;dsimp only at h
  refine pq aN Tryz.func173 rfl fun w X hC=> ?_
  refine rq hC [.z (.b (true)),.z (.b (true))] [2,3,4] [(2,V.tp (cI a)),(3,V.tp (cI b))] [] [] (vj h (fun x_=>aZ [(4,vB x_)] [] []) (fun j1 h=> ?_) (fun x5 h=> ?_))
  ·
   refine aO h (fun c1 h=> ?_) (fun c1 h=> ?_)
   ·exact rk hC (rF 6 c1++sF 18) (fr 4 34) [(4,vB false)] [] [] (lE h)
   ·refine aO h (fun c2 h=> ?_) (fun c2 h=> ?_)
    ·exact rk hC (rT 6 c1++rF 6 c2++sF 12) (fr 4 34) [(4,vB false)] [] [] (lE h)
    ·obtain⟨x2,hx2,h⟩:=bd h
     refine aO h (fun c3 h=> ?_) (fun c3 h=> ?_)
     ·exact rk hC (rT 6 c1++rT 5 c2++[oV (eM G n a.index b.index hx2),oT c2]++rF 6 c3++sF 6) (fr 4 34) [(4,vB false)] [] [] (lE h)
     ·obtain⟨x3,hx3,h⟩:=bd h
      refine aO h (fun c4 h=> ?_) (fun c4 h=> ?_)
      ·exact rk hC (rT 6 c1++rT 5 c2++[oV (eM G n a.index b.index hx2),oT c2]++rT 5 c3++[oV (kN G hx3),oT c3]++rF 6 c4) (fr 4 34) [(4,vB false)] [] [] (lE h)
      ·obtain⟨x4,hx4,h⟩:=bd h
       exact rk hC (rT 6 c1++rT 5 c2++[oV (eM G n a.index b.index hx2),oT c2]++rT 5 c3++[oV (kN G hx3),oT c3]++rT 5 c4++[oV (vG G n a.kids b.kids 173 (fun q0 q1=>i_exprSame n q0 q1) (fun q0 q1 r h=>ih q0 q1 h) hx4),oT c4]) (fr 4 34) [(4,vB x4)] [] [] (lE h)
  ·obtain rfl:=so h
   exact qr eR
theorem Y4(G:GS)(n:Nat)(a:Stmt)(b:Stmt){r:Bool}(h:lH n a b=some r):PQ G 76 [V.agg (cD a),V.agg (cD b)] (vB r):=by
 unfold lH at h
 refine pq aN Tryz.func76 rfl fun w X hC=> ?_
 refine rq hC [.z (.b (true)),.z (.b (true))] [2,3,4] [(2,V.tp (mI a)),(3,V.tp (mI b))] [] [] (vj h (fun x_=>aZ [(4,vB x_)] [] []) (fun j1 h=> ?_) (fun x4 h=> ?_))
 ·
  obtain⟨x2,hx2,h⟩:=bd h
  refine aO h (fun c1 h=> ?_) (fun c1 h=> ?_)
  ·exact rk hC ([oV (kN G hx2)]++rF 6 c1) (fr 4 13) [(4,vB false)] [] [] (lE h)
  ·obtain⟨x3,hx3,h⟩:=bd h
   exact rk hC ([oV (kN G hx2)]++rT 5 c1++[oV (Y3 G n a.value b.value hx3),oT c1]) (fr 4 13) [(4,vB x3)] [] [] (lE h)
 ·obtain rfl:=so h
  exact qr eR
theorem wY(G:GS)(n:Nat)(x:Part)(y:Part){r:Bool}(h:eN n x y=some r):PQ G 73 [V.agg (o4 x),V.agg (o4 y)] (vB r):=by
 unfold eN at h
 refine pq aN Tryz.func73 rfl fun w X hC=> ?_
 refine rq hC [.z (.b (true)),.z (.b (true))] [2,3,4] [(2,V.tp (oJ x)),(3,V.tp (oJ y))] [] [] (vj h (fun x_=>aZ [(4,vB x_)] [] []) (fun j1 h=> ?_) (fun x4 h=> ?_))
 ·
  obtain⟨x2,hx2,h⟩:=bd h
  refine aO h (fun c1 h=> ?_) (fun c1 h=> ?_)
  ·exact rk hC ([oV (wZ G hx2)]++rF 6 c1) (fr 4 13) [(4,vB false)] [] [] (lE h)
  ·obtain⟨x3,hx3,h⟩:=bd h
   exact rk hC ([oV (wZ G hx2)]++rT 5 c1++[oV (vD G n x.body y.body 76 (fun q0 q1=>lH n q0 q1) (fun q0 q1 r h=>Y4 G n q0 q1 h) hx3),oT c1]) (fr 4 13) [(4,vB x3)] [] [] (lE h)
 ·obtain rfl:=so h
  exact qr eR
theorem mK(G:GS)(n:Nat)(s1:List Arr)(s2:List Arr)(eqF:FuncId)(eq:Arr→Arr→Option Bool)(heq: ∀(q0:Arr) (q1:Arr) r,eq q0 q1=some r→PQ G eqF [V.agg [vS q0.name,vM rI q0.dims],V.agg [vS q1.name,vM rI q1.dims]] (vB r)){r:Bool}(h:gN n s1 s2 eq=some r):PQ G 77 [vM aK s1,vM aK s2,V.fn eqF []] (vB r):=by
 unfold gN at h
 refine pq aN Tryz.func77 rfl fun w X hC=> ?_
 refine rq hC [] [6] [] [] [] (qs (rq hC [oN aK s1,oN aK s2] (fr 10 5) [(14,vB (!decide ((s1.length:Int)=(s2.length:Int))))] [] [] (aP h (fun c1 h=> ?_) (fun c1 h=> ?_))))
 ·obtain rfl:=so h
  exact rq hC [] [6] [(6,vB false)] [] [] (qr eR)
 ·refine qk (qs (rq hC [oN aK s1] [15,16,17] [(15,vM aK s1),(16,vI (s1.length:Int)),(17,vI 0)] [] [] (qb (kR h (fun x_=>aZ [(1,vM aK s2),(2,V.fn eqF []),(15,vM aK s1),(16,vI (s1.length:Int)),(17,vI x_)] [] []) lS ?_))))
  rintro again2 x1 h
  refine rq hC [] [18] [(18,vB (decide (x1<(s1.length:Int))))] [] [] (qs (aP h (fun c2 h=> ?_) (fun c2 h=> ?_)))
  ·refine qk (qs (qb ?_))
   obtain⟨x3,hx3,h⟩:=bd h
   refine rq hC [oR aK hx3,.z (.nat 20)] [7,8,19,20,21] [(7,vI x1),(8,V.ref 20 0)] [(20,sc [vS x3.name,vM rI x3.dims])] [(20,true)] ?_
   obtain⟨x4,hx4,h⟩:=bd h
   refine rq hC [oR aK hx4,.z (.nat 21)] [9,22,23,24,25] [(9,V.ref 21 0)] [(21,sc [vS x4.name,vM rI x4.dims])] [(21,true)] ?_
   obtain⟨x5,hx5,h⟩:=bd h
   refine rq hC [oV (heq x3 x4 _ hx5)] (fr 26 5) [(30,vB (!x5))] [] [] (aP h (fun c3 h=> ?_) (fun c3 h=> ?_))
   ·obtain rfl:=so h
    exact rq hC [] [6] [(6,vB false)] [] [] (qr eR)
   ·exact qk (rk hC [] [17,31] [(17,vI (wr (x1+1)))] [] [] (lE h))
  ·obtain rfl:=so h
   exact dB (rq hC [] [6] [(6,vB true)] [] [] (qr eR))
theorem vE(G:GS)(n:Nat)(s1:List Part)(s2:List Part)(eqF:FuncId)(eq:Part→Part→Option Bool)(heq: ∀(q0:Part) (q1:Part) r,eq q0 q1=some r→PQ G eqF [V.agg (o4 q0),V.agg (o4 q1)] (vB r)){r:Bool}(h:iE n s1 s2 eq=some r):PQ G 78 [vM aC s1,vM aC s2,V.fn eqF []] (vB r):=by
 unfold iE at h
 refine pq aN Tryz.func78 rfl fun w X hC=> ?_
 refine rq hC [] [6] [] [] [] (qs (rq hC [oN aC s1,oN aC s2] (fr 10 5) [(14,vB (!decide ((s1.length:Int)=(s2.length:Int))))] [] [] (aP h (fun c1 h=> ?_) (fun c1 h=> ?_))))
 ·obtain rfl:=so h
  exact rq hC [] [6] [(6,vB false)] [] [] (qr eR)
 ·refine qk (qs (rq hC [oN aC s1] [15,16,17] [(15,vM aC s1),(16,vI (s1.length:Int)),(17,vI 0)] [] [] (qb (kR h (fun x_=>aZ [(1,vM aC s2),(2,V.fn eqF []),(15,vM aC s1),(16,vI (s1.length:Int)),(17,vI x_)] [] []) lS ?_))))
  rintro again2 x1 h
  refine rq hC [] [18] [(18,vB (decide (x1<(s1.length:Int))))] [] [] (qs (aP h (fun c2 h=> ?_) (fun c2 h=> ?_)))
  ·refine qk (qs (qb ?_))
   obtain⟨x3,hx3,h⟩:=bd h
   refine rq hC [oR aC hx3,.z (.nat 20)] [7,8,19,20,21] [(7,vI x1),(8,V.ref 20 0)] [(20,some (E.cells (o4 x3)))] [(20,true)] ?_
   obtain⟨x4,hx4,h⟩:=bd h
   refine rq hC [oR aC hx4,.z (.nat 21)] [9,22,23,24,25] [(9,V.ref 21 0)] [(21,some (E.cells (o4 x4)))] [(21,true)] ?_
   obtain⟨x5,hx5,h⟩:=bd h
   refine rq hC [oV (heq x3 x4 _ hx5)] (fr 26 5) [(30,vB (!x5))] [] [] (aP h (fun c3 h=> ?_) (fun c3 h=> ?_))
   ·obtain rfl:=so h
    exact rq hC [] [6] [(6,vB false)] [] [] (qr eR)
   ·exact qk (rk hC [] [17,31] [(17,vI (wr (x1+1)))] [] [] (lE h))
  ·obtain rfl:=so h
   exact dB (rq hC [] [6] [(6,vB true)] [] [] (qr eR))
theorem o0(G:GS)(n:Nat)(x:Arr)(y:Arr){r:Bool}(h:eO n x y=some r):PQ G 71 [V.agg [vS x.name,vM rI x.dims],V.agg [vS y.name,vM rI y.dims]] (vB r):=by
 unfold eO at h
 refine pq aN Tryz.func71 rfl fun w X hC=> ?_
 refine rq hC [.z (.b (true)),.z (.b (true))] [2,3,4] [(2,V.tp [T.str x.name,T.sl (List.map rI x.dims)]),(3,V.tp [T.str y.name,T.sl (List.map rI y.dims)])] [] [] (vj h (fun x_=>aZ [(4,vB x_)] [] []) (fun j1 h=> ?_) (fun x3 h=> ?_))
 ·
  refine aO h (fun c1 h=> ?_) (fun c1 h=> ?_)
  ·exact rk hC (rF 6 c1) (fr 4 13) [(4,vB false)] [] [] (lE h)
  ·obtain⟨x2,hx2,h⟩:=bd h
   exact rk hC (rT 5 c1++[oV (o9 G hx2),oT c1]) (fr 4 13) [(4,vB x2)] [] [] (lE h)
 ·obtain rfl:=so h
  exact qr eR
theorem jB{a}{b}{r}(h:dH n a b=some r):PQ G 18 [V.agg (bM a),V.agg (bM b)] (vB r):=by
 unfold dH at h
 refine pq aN Tryz.func18 rfl fun w X hC=> ?_
 refine rq hC [.z (.b (true)),.z (.b (true))] [2,3,4] [(2,V.tp (cH a)),(3,V.tp (cH b))] [] [] (rq hC [] [5] [(5,V.fn 71 [])] [] [] (rq hC [] [6] [(6,V.fn 73 [])] [] [] (vj h (fun x_=>aZ [(4,vB x_)] [] []) (fun j1 h=> ?_) (fun x4 h=> ?_))))
 ·
  obtain⟨x2,hx2,h⟩:=bd h
  refine aO h (fun c1 h=> ?_) (fun c1 h=> ?_)
  ·exact rk hC ([oV (mK G n a.arrays b.arrays 71 (fun q0 q1=>eO n q0 q1) (fun q0 q1 r h=>o0 G n q0 q1 h) hx2)]++rF 7 c1) [4,7,8,9,10,11,12,13,14,15,16,17,18,19,20] [(4,vB false)] [] [] (lE h)
  ·obtain⟨x3,hx3,h⟩:=bd h
   exact rk hC ([oV (mK G n a.arrays b.arrays 71 (fun q0 q1=>eO n q0 q1) (fun q0 q1 r h=>o0 G n q0 q1 h) hx2)]++rT 6 c1++[oV (vE G n a.parts b.parts 73 (fun q0 q1=>eN n q0 q1) (fun q0 q1 r h=>wY G n q0 q1 h) hx3),oT c1]) [4,7,8,9,10,11,12,13,14,15,16,17,18,19,20] [(4,vB x3)] [] [] (lE h)
 ·obtain rfl:=so h
  exact qr eR
theorem kO{p}{r}(h:dY n p=some r):PQ G 181 [V.agg (bM p)] (vI r):=by
 unfold dY at h
 refine pq aN Tryz.func181 rfl fun w X hC=> ?_
 refine rq hC [.z (.b (true))] [1,2] [(1,V.tp (cH p))] [] [] (rq hC [] [3] [(3,vI 0)] [] [] (qs (rq hC [oN aK p.arrays] (fr 6 4) [(7,vM aK p.arrays),(8,vI (p.arrays.length:Int)),(9,vI 0)] [] [] (qb (kR h (fun x_=>aZ [(3,vI x_.1),(7,vM aK p.arrays),(8,vI (p.arrays.length:Int)),(9,vI x_.2)] [] []) lS ?_)))))
 rintro again3 ⟨x1,x2⟩ h
 refine rq hC [] [10] [(10,vB (decide (x2<(p.arrays.length:Int))))] [] [] (qs (aP h (fun c1 h=> ?_) (fun c1 h=> ?_)))
 ·refine qk (qs (qb ?_))
  obtain⟨x4,hx4,h⟩:=bd h
  refine rq hC [oR aK hx4,.z (.nat 20)] [5,11,12] [(5,V.ref 20 0)] [(20,sc [vS x4.name,vM rI x4.dims])] [(20,true)] ?_
  obtain⟨x5,hx5,h⟩:=bd h
  exact rk hC [oV (s9 G hx5)] [3,13,14,15,16] [(3,vI (wr (x1+x5)))] [] [] (rk hC [] [9,17] [(9,vI (wr (x2+1)))] [] [] (lE h))
 ·obtain rfl:=so h
  exact dB (rq hC [] [2,18] [(2,vI x1)] [] [] (qr eR))
theorem L2{p}{r}(h:kJ n p=some r):PQ G 80 [V.agg (bM p)] (vI r):=by
 unfold kJ at h
 refine pq aN Tryz.func80 rfl fun w X hC=> ?_
 refine rq hC [.z (.b (true))] [1,2] [(1,V.tp (cH p))] [] [] (qs ?_)
 obtain⟨x1,hx1,h⟩:=bd h
 refine rq hC [oV (cA G hx1)] [3,4,5] [(5,vB (!x1))] [] [] (aP h (fun c1 h=> ?_) (fun c1 h=> ?_))
 ·obtain rfl:=so h
  exact rq hC [] [2] [(2,vI 0)] [] [] (qr eR)
 ·refine qk ?_
  obtain⟨x2,hx2,h⟩:=bd h
  obtain rfl:=so h
  exact rq hC [oV (kO G hx2)] [2,6,7] [(2,vI x2)] [] [] (qr eR)
theorem aCs{a}{b}{r}(h:pD n a b=some r):PQ G 81 [vM rI a,vM rI b] (vB r):=by
 unfold pD at h
 refine pq aN Tryz.func81 rfl fun w X hC=> ?_
 refine rq hC [] [4] [] [] [] (qs (rq hC [oN rI a,oN rI b] (fr 6 5) [(10,vB (!decide ((a.length:Int)=(b.length:Int))))] [] [] (aP h (fun c1 h=> ?_) (fun c1 h=> ?_))))
 ·obtain rfl:=so h
  exact rq hC [] [4] [(4,vB false)] [] [] (qr eR)
 ·refine qk (qs (rq hC [] [5] [(5,vI 0)] [] [] (qb (kR h (fun x_=>aZ [(0,vM rI a),(1,vM rI b),(5,vI x_)] [] []) lS ?_))))
  rintro again2 x1 h
  refine qs (rq hC [oN rI a] (fr 11 4) [(14,vB (decide (x1<(a.length:Int))))] [] [] (aP h (fun c2 h=> ?_) (fun c2 h=> ?_)))
  ·refine qk (qs (qb (qs ?_)))
   obtain⟨x3,hx3,x4,hx4,h⟩:=dS h
   refine dk hC bQ [oR rI hx3,oR rI hx4] (fr 17 9) [(25,vB (!decide (x3=x4)))] [] [] (aP h (fun c3 h=> ?_) (fun c3 h=> ?_))
   ·obtain rfl:=so h
    exact rq hC [] [4] [(4,vB false)] [] [] (qr eR)
   ·exact qk (rk hC [] [5,15,16] [(5,vI (wr (x1+1)))] [] [] (lE h))
  ·obtain rfl:=so h
   exact dB (rq hC [] [4] [(4,vB true)] [] [] (qr eR))
theorem w3(G:GS)(n:Nat)(n_a0:Int){r:Bool}(h:eP n n_a0=some r):PQ G 227 [vI n_a0] (vB r):=by
 unfold eP at h
 refine pq aN Tryz.func227 rfl fun w X hC=> ?_
 refine rq hC [] [2] [] [] [] ?_
 obtain⟨x1,hx1,h⟩:=bd h
 obtain rfl:=so h
 exact rq hC [oV (bJ G hx1)] (fr 2 4) [(2,vB (!x1))] [] [] (qr eR)
theorem zQ{p}{m}{r}(h:iX n p m=some r):PQ G 147 [V.agg (bM p),vM rI m] (vB r):=by
 unfold iX at h
 refine pq aN Tryz.func147 rfl fun w X hC=> ?_
 refine rq hC [.z (.b (true))] [2,4] [(2,V.tp (cH p))] [] [] (vj h (fun x_=>aZ [(4,vB x_)] [] []) (fun j1 h=> ?_) (fun x5 h=> ?_))
 ·
  obtain⟨x2,hx2,h⟩:=bd h
  refine aO h (fun c1 h=> ?_) (fun c1 h=> ?_)
  ·exact rk hC ([oV (cA G hx2)]++rF 6 c1++sF 4) (fr 4 15) [(4,vB false)] [] [] (lE h)
  ·obtain⟨x3,hx3,h⟩:=bd h
   refine aO h (fun c2 h=> ?_) (fun c2 h=> ?_)
   ·exact rk hC ([oV (cA G hx2),oT c1,oT c1,oN rI m,oT c1,oT c1,oV (kO G hx3),oT c1,oT c1]++rF 4 c2) (fr 4 15) [(4,vB false)] [] [] (lE h)
   ·obtain⟨x4,hx4,h⟩:=bd h
    exact rk hC [oV (cA G hx2),oT c1,oT c1,oN rI m,oT c1,oT c1,oV (kO G hx3),oT c1,oT c1,oT c2,oT c2,oV (dP G n m 227 (fun q0=>eP n q0) (fun q0 r h=>w3 G n q0 h) hx4),oT c2,oT c2] (fr 4 15) [(4,vB (!x4))] [] [] (lE h)
 ·obtain rfl:=so h
  exact qr eR
theorem s8{p}{r}(h:eK n p=some r):VQ G 101 [] [V.agg (bM p)] (ms 0 1 3 bZ r) [ar 112 1 3 bZ r]:=by
 unfold eK at h
 refine vq aN Tryz.func101 rfl fun w X β0 hC hg=> ?_
 refine rq hC [.z (.b (true))] [1,2] [(1,V.tp (cH p))] [] [] ?_
 obtain⟨x1,hx1,h⟩:=bd h
 refine rq hC [oC [] [20] (kV G hx1)] (fr 3 7) [(3,ms 20 1 3 bZ x1.1),(4,vB x1.2)] [(20,some (ar 112 1 3 bZ x1.1))] [(20,true)] (qs (rq hC [] [10,11] [(11,vB (!x1.2))] [] [] (aP h (fun c1 h=> ?_) (fun c1 h=> ?_))))
 ·obtain rfl:=so h
  exact rq hC [] [2] [(2,V.t T.nilS)] [] [] (qw (lk hC [.grow 2 0 112] [2] [(2,ms 0 1 3 bZ [])] [(0,some (ar 112 1 3 bZ []))] [(0,true)]) (qr eW))
 ·obtain rfl:=so h
  exact qk (rq hC [] [2,12] [(2,ms 20 1 3 bZ x1.1)] [] [] (qw (lk hC [.ren 2 20 0] [2] [(2,ms 0 1 3 bZ x1.1)] [(0,some (ar 112 1 3 bZ x1.1)),(20,none)] [(0,true)]) (qr eW)))
theorem yL{p}{x}{r}(h:gY n p x=some r):PQ G 228 [V.agg (bM p),V.agg (aF2 x)] (V.agg (cD r)):=by
 unfold gY at h
 refine pq aN Tryz.func228 rfl fun w X hC=> ?_
 refine rq hC [.z (.b (true)),.z (.b (true)),.z (.nat 20)] [2,3,4] [(2,V.tp (cH p)),(3,V.tp (aHE x)),(4,V.ref 20 0)] [(20,sc [vS [],V.t T.nilS,vI 0,vI 0,V.t T.nilS,vI 0,vS [],V.t T.nilS,V.t T.nilS])] [(20,true)] (qs ?_)
 obtain⟨x1,hx1,x2,hx2,h⟩:=dS h
 obtain rfl:=so h
 exact dk hC bQ [oR aC hx1,oR aG hx2] (fr 5 11) [] [(20,some (E.cells (cD x2)))] [] (qr eR)
theorem rA{n_a0}{r}(h:l4 n n_a0=some r):PQ G 293 [vI n_a0] (vI r):=by
 unfold l4 at h
 refine pq aN Tryz.func293 rfl fun w X hC=> ?_
 obtain rfl:=so h
 exact rq hC [] [2] [] [] [] (rq hC [oQ (show(1000:Int)≠0 by decide),oQ (show(1000:Int)≠0 by decide)] (fr 2 6) [(2,vI (Int.tmod (wr ((wr ((Int.tmod n_a0 1000)+999))+1)) 1000))] [] [] (qr eR))
theorem wW(G:GS): ∀(n:Nat) (p:Prog) (m:List Int) (e:Expr) (point:List Int) {r:Int} (h:i_Program_value n p m e point=some r),PQ G 229 [V.agg (bM p),vM rI m,V.agg (aT e),vM rI point] (vI r):=by
 intro n
 induction n with
 |zero=>intro p m e point r h;rw [i_Program_value.eq_def] at h;cases h
 |succ n ih=>
  intro p m e point r h
  rw [i_Program_value.eq_def] at h;dsimp only at h
  refine pq aN Tryz.func229 rfl fun w X hC=> ?_
  refine rq hC [.z (.b (true)),.z (.b (true))] [4,6,8] [(4,V.tp (cH p)),(6,V.tp (cI e))] [] [] (qs (rq hC [] [11,12] [(12,vI e.kind)] [] [] (qb (rq hC [] [13,14] [(13,vB (decide (e.kind=1)))] [] [] (aP h (fun c1 h=> ?_) (fun c1 h=> ?_))))))
  ·obtain rfl:=so h
   exact rq hC [] [8,15,16] [(8,vI e.num)] [] [] (qr eR)
  ·refine rq hC [] [17,18] [(17,vB (decide (e.kind=2)))] [] [] (aP h (fun c2 h=> ?_) (fun c2 h=> ?_))
   ·obtain⟨x1,hx1,x2,hx2,h⟩:=dS h
    obtain rfl:=so h
    exact rq hC [oV (eS G hx1),oV (rA G hx2)] [8,19,20,21,22,23] [(8,vI x2)] [] [] (qr eR)
   ·refine rq hC [] [24,25] [(24,vB (decide (e.kind=3)))] [] [] (aP h (fun c3 h=> ?_) (fun c3 h=> ?_))
    ·obtain⟨x3,hx3,x4,hx4,h⟩:=dS h
     obtain rfl:=so h
     exact rq hC [oV (fV G hx3),oR rI hx4] [8,26,27,28,29,30,31,32,33] [(8,vI x4)] [] [] (qr eR)
    ·refine qk (qs ?_)
     obtain⟨x5,hx5,x6,hx6,x7,hx7,h⟩:=mL h
     obtain⟨x8,hx8,h⟩:=bd h
     refine dk hC bQ [.z (.row (cY x5)),oQ (dG aH hx5 (bW x5)),oV (ih p m x5 point hx6),.z (.row (cY x7)),oQ (dG aH hx7 (bW x7)),oV (ih p m x7 point hx8)] [9,10,34,35,36,37,38,39,40,41,42,43,44,45,46,47,48,49] [(9,vI x6),(10,vI x8)] [] [] (qs (rq hC [] [50,51] [(51,vI e.kind)] [] [] (qb (rq hC [] [52,53] [(52,vB (decide (e.kind=4)))] [] [] (aP h (fun c4 h=> ?_) (fun c4 h=> ?_))))))
     ·obtain⟨x9,hx9,h⟩:=bd h
      obtain rfl:=so h
      exact rq hC [oV (rA G hx9)] [8,54,55,56,57] [(8,vI x9)] [] [] (qr eR)
     ·refine rq hC [] [58,59] [(58,vB (decide (e.kind=5)))] [] [] (aP h (fun c5 h=> ?_) (fun c5 h=> ?_))
      ·obtain⟨x10,hx10,h⟩:=bd h
       obtain rfl:=so h
       exact rq hC [oV (rA G hx10)] [8,60,61,62,63] [(8,vI x10)] [] [] (qr eR)
      ·refine qk ?_
       obtain⟨x11,hx11,h⟩:=bd h
       obtain rfl:=so h
       exact rq hC [oV (rA G hx11)] [8,64,65,66,67] [(8,vI x11)] [] [] (qr eR)
theorem K9{p}{m}(mG:Nat){x}{r}(h:kG n p m x=some r):VQ G 149 [ar 3 mG 1 rI m] [V.agg (bM p),ms 0 mG 1 rI m,V.agg (aF2 x)] (V.tup []) [ar 3 mG 1 rI r]:=by
 unfold kG at h
 refine vq aN Tryz.func149 rfl fun w X β0 hC hg=> ?_
 refine rq hC [.z (.b (true)),.z (.b (true))] [3,5] [(3,V.tp (cH p)),(5,V.tp (aHE x))] [] [] ?_
 obtain⟨x1,hx1,h⟩:=bd h
 refine rq hC [oV (yL G hx1),.z (.nat 20)] (fr 6 4) [(6,V.ref 20 0)] [(20,some (E.cells (cD x1)))] [(20,true)] ?_
 obtain⟨x2,hx2,x3,hx3,x4,hx4,h⟩:=mL h
 obtain⟨x5,hx5,h⟩:=bd h
 obtain rfl:=so h
 exact dk hC bQ [oV (fV G hx2),.z (.b (true)),oV (wW G n p m x1.value x.point hx3),oQ (mJ rI hx4),oX rI hx4,.z (.rows (List.map rI x5)),oQ (str rI hx5)] [1,10,11,12,13,14,15,16,17,18,19,20,21,22,23,24] [] [(0,some (ar 3 mG 1 rI x5))] [] eW
theorem s6{p}{m}{r}(h:fC n p m=some r):VQ G 58 [] [V.agg (bM p),vM rI m] (V.tup [ms 0 1 1 rI r.1,vB r.2]) [ar 3 1 1 rI r.1]:=by
 unfold fC at h
 refine vq aN Tryz.func58 rfl fun w X β0 hC hg=> ?_
 refine rq hC [.z (.b (true))] [2,4,5] [(2,V.tp (cH p))] [] [] (qs ?_)
 obtain⟨x1,hx1,h⟩:=bd h
 refine rq hC [oV (zQ G hx1)] (fr 9 4) [(12,vB (!x1))] [] [] (aP h (fun c1 h=> ?_) (fun c1 h=> ?_))
 ·obtain rfl:=so h
  exact rq hC [] [4,5] [(4,V.t T.nilS),(5,vB false)] [] [] (qw (lk hC [.grow 4 0 3] [4] [(4,ms 0 1 1 rI [])] [(0,some (ar 3 1 1 rI []))] [(0,true)]) (qr eW))
 ·refine qk ?_
  obtain⟨x2,hx2,h⟩:=bd h
  refine rq hC [oC [] [20] (G.clone m hx2)] [6,13,14] [(6,ms 20 1 1 rI x2)] [(20,some (ar 3 1 1 rI x2))] [(20,true)] (qs ?_)
  obtain⟨x3,hx3,h⟩:=bd h
  refine rq hC [oC [] [21] (s8 G hx3),oN bZ x3] (fr 15 4) [(16,ms 21 1 3 bZ x3),(17,vI (x3.length:Int)),(18,vI 0)] [(21,some (ar 112 1 3 bZ x3))] [(21,true)] (qb (bF (γ:=Nat) h (fun x_ g_=>aZ [(2,V.tp (cH p)),(6,ms 20 g_ 1 rI x_.1),(16,ms 21 1 3 bZ x3),(17,vI (x3.length:Int)),(18,vI x_.2)] [(20,ar 3 g_ 1 rI x_.1),(21,ar 112 1 3 bZ x3)] [20,21]) 1 (lS) ?_))
  rintro again7 ⟨x4,x5⟩ g6 h
  refine rq hC [] [19] [(19,vB (decide (x5<(x3.length:Int))))] [] [] (qs (aP h (fun c2 h=> ?_) (fun c2 h=> ?_)))
  ·refine qk (qs (qb ?_))
   obtain⟨x8,hx8,h⟩:=bd h
   refine rq hC [oQ (mJ bZ hx8),oX bZ hx8,.z (.nat 22)] [8,20,21] [(8,V.ref 22 0)] [(22,some (E.cells (aF2 x8)))] [(22,true)] ?_
   obtain⟨x9,hx9,x10,hx10,h⟩:=dS h
   exact rk hC [oC [20] [] (K9 G g6 hx9),.z (.len 6 (List.map rI x9).length),oQ (aEJ rI hx10)] [6,22,23,24,25] [(6,ms 20 g6 1 rI x9)] [(20,some (ar 3 g6 1 rI x9))] [(20,true)] (rk hC [] [18,26] [(18,vI (wr (x5+1)))] [] [] ⟨(x9,wr (x5+1)),g6,h,lS⟩)
  ·obtain rfl:=so h
   exact dB (rq hC [] [4,5,27] [(4,ms 20 g6 1 rI x4),(5,vB true)] [] [] (qw (lk hC [.ren 4 20 0] [4] [(4,ms 0 1 1 rI x4)] [(0,some (ar 3 1 1 rI x4)),(20,none)] [(0,true)]) (qr eW)))
theorem sY{p}{q}{seed}{r}(h:pE n p q seed=some r):PQ G 20 [V.agg (bM p),V.agg (bM q),vI seed] (vB r):=by
 unfold pE at h
 refine pq aN Tryz.func20 rfl fun w X hC=> ?_
 refine rq hC [.z (.b (true)),.z (.b (true))] [3,4,6] [(3,V.tp (cH p)),(4,V.tp (cH q))] [] [] ?_
 obtain⟨x1,hx1,x2,hx2,h⟩:=dS h
 refine rq hC [oV (L2 G hx1),.z (.nat 20),oA (aIv rI hx2),oQ (V0 hx2).1] [7,13,14,15] [(7,ms 20 1 1 rI x2)] [(20,some (ar 3 1 1 rI x2))] [(20,true)] (qs (rq hC [] [8] [(8,vI 0)] [] [] (qb (bF (γ:=Nat) h (fun x_ g_=>aZ [(2,vI seed),(3,V.tp (cH p)),(4,V.tp (cH q)),(7,ms 20 g_ 1 rI x_.1),(8,vI x_.2)] [(20,ar 3 g_ 1 rI x_.1)] [20]) 1 (lS) ?_))))
 rintro again6 ⟨x3,x4⟩ g5 h
 refine qs (rq hC [oN rI x3] (fr 16 4) [(19,vB (decide (x4<(x3.length:Int))))] [] [] (aP h (fun c1 h=> ?_) (fun c1 h=> ?_)))
 ·refine qk (qs (qb ?_))
  obtain⟨x7,hx7,x8,hx8,h⟩:=dS h
  exact rk hC [oQ (show(1000:Int)≠0 by decide),oQ (mJ rI hx7),oX rI hx7,.z (.rows (List.map rI x8)),.z (.len 7 (List.map rI x8).length),oQ (str rI hx8),oQ (nU rI hx8)] [7,22,23,24,25,26,27,28,29,30,31] [(7,ms 20 g5 1 rI x8)] [(20,some (ar 3 g5 1 rI x8))] [] (rk hC [] [8,20,21] [(8,vI (wr (x4+1)))] [] [] ⟨(x8,wr (x4+1)),g5,h,lS⟩)
 ·refine dB ?_
  obtain⟨x9,hx9,h⟩:=bd h
  refine rq hC [.z (.at 6),.z (.fz 20 [7,34] []),oC [] [21] (s6 G hx9)] [7,9,10,32,33,34,35,36,37] [(7,vM rI x3),(9,ms 21 1 1 rI x9.1),(10,vB x9.2)] [(20,none),(21,some (ar 3 1 1 rI x9.1))] [(21,true)] ?_
  obtain⟨x10,hx10,h⟩:=bd h
  refine rq hC [oC [] [22] (s6 G hx10)] [11,12,38,39,40,41,42,43] [(11,ms 22 1 1 rI x10.1),(12,vB x10.2)] [(22,some (ar 3 1 1 rI x10.1))] [(22,true)] (vj h (fun x_=>aZ [(6,vB x_)] [(21,ar 3 1 1 rI x9.1),(22,ar 3 1 1 rI x10.1)] [20,21,22]) (fun j11 h=> ?_) (fun x13 h=> ?_))
  ·
   refine aO h (fun c2 h=> ?_) (fun c2 h=> ?_)
   ·exact rk hC ([oF c2,oF c2]++sF 4) [6,44,45,46,47,48,49,50,51,52] [(6,vB false)] [] [] (lE h)
   ·refine aO h (fun c3 h=> ?_) (fun c3 h=> ?_)
    ·exact rk hC ([oT c2,oT c2]++rF 4 c3) [6,44,45,46,47,48,49,50,51,52] [(6,vB false)] [] [] (lE h)
    ·obtain⟨x12,hx12,h⟩:=bd h
     exact rk hC ([oT c2,oT c2]++rT 3 c3++[.z (.b (true)),oV (aCs G hx12),oT c3]) [6,44,45,46,47,48,49,50,51,52] [(6,vB x12)] [] [] (lE h)
  ·obtain rfl:=so h
   exact qr eR
theorem wO(G:GS)(n:Nat)(code:List UInt8)(more:List UInt8){r:Bool}(h:iY n code more=some r):PQ G 3 [vM rY code,vM rY more] (vB r):=by
 unfold iY at h
 refine pq aN Tryz.func3 rfl fun w X hC=> ?_
 refine rq hC [] [4] [] [] [] (qs (vj h (fun x_=>aZ [(0,vM rY code),(1,vM rY more),(19,vB x_)] [] []) (fun j1 h=> ?_) (fun x2 h=> ?_)))
 ·
  refine aO h (fun c1 h=> ?_) (fun c1 h=> ?_)
  ·exact rk hC [oN rY code,oF c1,oF c1,oN rY more,oF c1,oF c1] (fr 12 8) [(19,vB (decide ((1048576:Int)<(more.length:Int))))] [] [] (lE h)
  ·exact rk hC ([oN rY code]++rT 4 c1) (fr 12 8) [(19,vB true)] [] [] (lE h)
 ·refine aP h (fun c2 h=> ?_) (fun c2 h=> ?_)
  ·obtain rfl:=so h
   exact rq hC [] [4] [(4,vB true)] [] [] (qr eR)
  ·refine qk ?_
   obtain⟨x3,hx3,h⟩:=bd h
   refine rq hC [oV (tY G hx3),.z (.nat 20)] [5,20,21] [(5,V.ref 20 0)] [(20,some (E.cells (bM x3)))] [(20,true)] ?_
   obtain⟨x4,hx4,h⟩:=bd h
   refine rq hC [oV (rK G hx4),.z (.nat 21)] [6,7,22,23,24,25,26] [(6,V.ref 21 0),(7,vB x4.2)] [(21,some (E.cells (bM x4.1)))] [(21,true)] ?_
   obtain⟨x5,hx5,h⟩:=bd h
   refine rq hC [oV (zP G hx5),.z (.nat 22)] [8,9,27,28,29,30,31] [(8,V.ref 22 0),(9,vB x5.2)] [(22,some (E.cells (bM x5.1)))] [(22,true)] (qs (vj h (fun x_=>aZ [(1,vM rY more),(5,V.ref 20 0),(6,V.ref 21 0),(7,vB x4.2),(8,V.ref 22 0),(9,vB x5.2),(44,vB x_)] [(20,E.cells (bM x3)),(21,E.cells (bM x4.1)),(22,E.cells (bM x5.1))] [20,21,22]) (fun j6 h=> ?_) (fun x8 h=> ?_)))
   ·
    refine aO h (fun c3 h=> ?_) (fun c3 h=> ?_)
    ·obtain⟨x7,hx7,h⟩:=bd h
     refine aO h (fun c4 h=> ?_) (fun c4 h=> ?_)
     ·exact rk hC (rF 3 c3++[oV (jB G hx7),oF c3,oF c3]++rF 3 c4) (fr 32 13) [(44,vB (!x4.2))] [] [] (lE h)
     ·exact rk hC (rF 3 c3++[oV (jB G hx7),oF c3,oF c3]++rT 3 c4) (fr 32 13) [(44,vB true)] [] [] (lE h)
    ·exact rk hC (rT 5 c3++[eT,eT,eT]) (fr 32 13) [(44,vB true)] [] [] (lE h)
   ·refine aP h (fun c5 h=> ?_) (fun c5 h=> ?_)
    ·refine vj h (fun x_=>aZ [(4,vB x_)] [(20,E.cells (bM x3)),(21,E.cells (bM x4.1)),(22,E.cells (bM x5.1))] [20,21,22]) (fun j9 h=> ?_) (fun x11 h=> ?_)
     ·
      refine aO h (fun c6 h=> ?_) (fun c6 h=> ?_)
      ·exact rk hC (rF 4 c6) [4,45,46,47,48,49,50,51,52] [(4,vB false)] [] [] (lE h)
      ·obtain⟨x10,hx10,h⟩:=bd h
       exact rk hC (rT 3 c6++[oV (jB G hx10),oT c6]) [4,45,46,47,48,49,50,51,52] [(4,vB x10)] [] [] (lE h)
     ·obtain rfl:=so h
      exact qr eR
    ·refine qk ?_
     obtain⟨x12,hx12,h⟩:=bd h
     refine rq hC [oV (rK G hx12),.z (.nat 23)] [10,11,53,54,55,56,57] [(10,V.ref 23 0),(11,vB x12.2)] [(23,some (E.cells (bM x12.1)))] [(23,true)] (vj h (fun x_=>aZ [(4,vB x_)] [(20,E.cells (bM x3)),(21,E.cells (bM x4.1)),(22,E.cells (bM x5.1)),(23,E.cells (bM x12.1))] [20,21,22,23]) (fun j13 h=> ?_) (fun x17 h=> ?_))
     ·
      obtain⟨x14,hx14,h⟩:=bd h
      refine aO h (fun c7 h=> ?_) (fun c7 h=> ?_)
      ·exact rk hC ([oV (cA G hx14)]++rF 6 c7++sF 6) [4,58,59,60,61,62,63,64,65,66,67,68,69,70,71,72,73,74] [(4,vB false)] [] [] (lE h)
      ·obtain⟨x15,hx15,h⟩:=bd h
       refine aO h (fun c8 h=> ?_) (fun c8 h=> ?_)
       ·exact rk hC ([oV (cA G hx14)]++rT 4 c7++[oN rY more,oT c7,oV (sY G hx15),oT c7,oF c8,oF c8]++sF 4) [4,58,59,60,61,62,63,64,65,66,67,68,69,70,71,72,73,74] [(4,vB false)] [] [] (lE h)
       ·refine aO h (fun c9 h=> ?_) (fun c9 h=> ?_)
        ·exact rk hC ([oV (cA G hx14)]++rT 4 c7++[oN rY more,oT c7,oV (sY G hx15),oT c7,oT c8,oT c8]++rF 4 c9) [4,58,59,60,61,62,63,64,65,66,67,68,69,70,71,72,73,74] [(4,vB false)] [] [] (lE h)
        ·obtain⟨x16,hx16,h⟩:=bd h
         exact rk hC ([oV (cA G hx14)]++rT 4 c7++[oN rY more,oT c7,oV (sY G hx15),oT c7,oT c8,oT c8]++rT 3 c9++[oV (jB G hx16),oT c9]) [4,58,59,60,61,62,63,64,65,66,67,68,69,70,71,72,73,74] [(4,vB x16)] [] [] (lE h)
     ·obtain rfl:=so h
      exact qr eR
end Go.Lift
