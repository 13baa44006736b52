/- The walks: the code computes what the plain functions say. -/
import Derived.Test.YtaedfpoebdhocaaGreatQModels
import Derived.Test.YtaedfpoebdhocaaGreatQTab
import Derived.Test.YtaedfpoebdhocaaGreatQCells
set_option maxRecDepth 10000
set_option linter.unusedVariables false
namespace Go.Lift
open Go Go.Proofs
variable (G:GS) {n:Nat}
theorem xX{a}{left}{r}(h:pS n a left=some r):PQ G 57 [vM rI a,vI left] (vI r):=by
 refine pq aN Tryz.func57 rfl fun w X hC=>bB hC [4] (aO hC [oN rI a] [1,5,6,7,8] [(1,vI (wr (left-(a.length:Int))))] (qs (aE hC [9,10] [(10,vD (wr (left-(a.length:Int))<0))] (aV h (fun c1 h=>?_) fun c1 h=>?_))))
 ·cases h;exact aE hC [4] [(4,vI (-1))] zr
 cases h;exact qk (aE hC [4,11] [(4,vI (wr (left-(a.length:Int))))] zr)
theorem Q3{a}{left}{r}(h:sN n a left=some r):PQ G 60 [V.agg [vS a.name,vM rI a.dims],vI left] (vI r):=by
 refine pq aN Tryz.func60 rfl fun w X hC=>aO hC [.z (.b (true))] [2,4] [(2,V.tp [T.str a.name,T.sl (List.map rI a.dims)])] (aE hC [1,5,6,7,8,9] [(1,vI (wr (left-(a.name.length:Int))))] (qs (aE hC [10,11] [(11,vD (wr (left-(a.name.length:Int))<0))] (aV h (fun c1 h=>?_) fun c1 h=>?_))))
 ·obtain rfl:=so h;exact aE hC [4] [(4,vI (-1))] zr
 refine qk ?_;obtain⟨x1,hx1,h⟩:=bd h;refine aO hC [oV (xX G hx1)] [1,12,13,14,15] [(1,vI x1)] (qs (aE hC [16,17] [(17,vD (x1<0))] (aV h (fun c2 h=>?_) fun c2 h=>?_)))
 ·obtain rfl:=so h;exact aE hC [4] [(4,vI (-1))] zr
 obtain rfl:=so h;exact qk (aE hC [4,18] [(4,vI x1)] zr)
theorem I8{a}{left}{r}(h:oU n a left=some r):PQ G 33 [vM aT a,vI left] (vI r):=by
 refine pq aN Tryz.func33 rfl fun w X hC=>bB hC [4] (aO hC [oN aT a] [1,6,7,8,9] [(1,vI (wr (left-(a.length:Int))))] (qs (aE hC [10,11] [(11,vD (wr (left-(a.length:Int))<0))] (aV h (fun c1 h=>?_) fun c1 h=>?_))))
 ·obtain rfl:=so h;exact aE hC [4] [(4,vI (-1))] zr
 refine qk (qs (aE hC [5] [(5,vI 0)] (qb (jC h (fun x_=>dI [(0,vM aT a),(1,vI x_.1),(5,vI x_.2)]) lS ?_))));rintro again3 ⟨x1,x2⟩ h;refine qs (aO hC [oN aT a] (fr 12 4) [(15,vK x2 a)] (aV h (fun c2 h=>?_) fun c2 h=>?_))
 ·refine qk (eN ?_);obtain⟨x4,hx4,x5,hx5,h⟩:=gT h;refine aO hC [oR aT hx4,oV (Q3 G hx5)] [1,18,19,20,21,22,23] [(1,vI x5)] (aE hC [24,25] [(25,vD (x5<0))] (aV h (fun c3 h=>?_) fun c3 h=>qk (bA hC [5,16,17] [(5,vI (wr (x2+1)))] (lE h))));obtain rfl:=so h;exact aE hC [4] [(4,vI (-1))] zr
 obtain rfl:=so h;exact d4 (aE hC [4,26] [(4,vI x1)] zr)
theorem rK{a}{left}{r}(h:lR n a left=some r):PQ G 175 [V.agg (b9 a),vI left] (vI r):=by
 refine pq aN Tryz.func175 rfl fun w X hC=>aO hC [.z (.b (true))] [2,4] [(2,V.tp (bR a))] ?_;obtain⟨x1,hx1,h⟩:=bd h;refine aO hC [oV (xX G hx1)] [1,5,6,7,8] [(1,vI x1)] (qs (aE hC [9,10] [(10,vD (x1<0))] (aV h (fun c1 h=>?_) fun c1 h=>?_)))
 ·obtain rfl:=so h;exact aE hC [4] [(4,vI (-1))] zr
 obtain rfl:=so h;exact qk (aE hC [4,11] [(4,vI x1)] zr)
theorem kR{a}{left}{r}(h:gY n a left=some r):PQ G 151 [vM aD a,vI left] (vI r):=by
 refine pq aN Tryz.func151 rfl fun w X hC=>bB hC [4] (aO hC [oN aD a] [1,6,7,8,9] [(1,vI (wr (left-(a.length:Int))))] (qs (aE hC [10,11] [(11,vD (wr (left-(a.length:Int))<0))] (aV h (fun c1 h=>?_) fun c1 h=>?_))))
 ·obtain rfl:=so h;exact aE hC [4] [(4,vI (-1))] zr
 refine qk (qs (aE hC [5] [(5,vI 0)] (qb (jC h (fun x_=>dI [(0,vM aD a),(1,vI x_.1),(5,vI x_.2)]) lS ?_))));rintro again3 ⟨x1,x2⟩ h;refine qs (aO hC [oN aD a] (fr 12 4) [(15,vK x2 a)] (aV h (fun c2 h=>?_) fun c2 h=>?_))
 ·refine qk (eN ?_);obtain⟨x4,hx4,x5,hx5,h⟩:=gT h;refine aO hC [oR aD hx4,oV (rK G hx5)] [1,18,19,20,21,22,23] [(1,vI x5)] (aE hC [24,25] [(25,vD (x5<0))] (aV h (fun c3 h=>?_) fun c3 h=>qk (bA hC [5,16,17] [(5,vI (wr (x2+1)))] (lE h))));obtain rfl:=so h;exact aE hC [4] [(4,vI (-1))] zr
 obtain rfl:=so h;exact d4 (aE hC [4,26] [(4,vI x1)] zr)
theorem rM{a}{left}{r}(h:lT n a left=some r):PQ G 152 [V.agg (dG a),vI left] (vI r):=by
 refine pq aN Tryz.func152 rfl fun w X hC=>aO hC [.z (.b (true))] [2,4] [(2,V.tp (cF a))] (aE hC [1,5,6,7,8,9] [(1,vI (wr (left-(a.array.length:Int))))] (qs (aE hC [10,11] [(11,vD (wr (left-(a.array.length:Int))<0))] (aV h (fun c1 h=>?_) fun c1 h=>?_))))
 ·obtain rfl:=so h;exact aE hC [4] [(4,vI (-1))] zr
 refine qk ?_;obtain⟨x1,hx1,h⟩:=bd h;refine aO hC [oV (kR G hx1)] [1,12,13,14,15] [(1,vI x1)] (qs (aE hC [16,17] [(17,vD (x1<0))] (aV h (fun c2 h=>?_) fun c2 h=>?_)))
 ·obtain rfl:=so h;exact aE hC [4] [(4,vI (-1))] zr
 obtain rfl:=so h;exact qk (aE hC [4,18] [(4,vI x1)] zr)
theorem Q1(G:GS)(n:Nat)(self:Expr→Int→Option Int)(hself: ∀(q0:Expr) (q1:Int) {r:Int},self q0 q1=some r→PQ G 153 [V.agg (iD q0),vI q1] (vI r))(a:List Expr)(left:Int){r:Int}(h:sM n self a left=some r):PQ G 176 [vM aS a,vI left] (vI r):=by
 refine pq aN Tryz.func176 rfl fun w X hC=>bB hC [4] (aO hC [oN aS a] [1,6,7,8,9] [(1,vI (wr (left-(a.length:Int))))] (qs (aE hC [10,11] [(11,vD (wr (left-(a.length:Int))<0))] (aV h (fun c1 h=>?_) fun c1 h=>?_))))
 ·obtain rfl:=so h;exact aE hC [4] [(4,vI (-1))] zr
 refine qk (qs (aE hC [5] [(5,vI 0)] (qb (jC h (fun x_=>dI [(0,vM aS a),(1,vI x_.1),(5,vI x_.2)]) lS ?_))));rintro again3 ⟨x1,x2⟩ h;refine qs (aO hC [oN aS a] (fr 12 4) [(15,vK x2 a)] (aV h (fun c2 h=>?_) fun c2 h=>?_))
 ·refine qk (eN ?_);obtain⟨x4,hx4,x5,hx5,h⟩:=gT h;refine aO hC [.z (.row (gI x4)),oQ (f7 aS hx4 (cL x4)),oV (hself x4 x1 hx5)] [1,18,19,20,21,22,23] [(1,vI x5)] (aE hC [24,25] [(25,vD (x5<0))] (aV h (fun c3 h=>?_) fun c3 h=>qk (bA hC [5,16,17] [(5,vI (wr (x2+1)))] (lE h))));obtain rfl:=so h;exact aE hC [4] [(4,vI (-1))] zr
 obtain rfl:=so h;exact d4 (aE hC [4,26] [(4,vI x1)] zr)
theorem aAe(G:GS): ∀(n:Nat) (a:Expr) (left:Int) {r:Int} (h:w_szExpr n a left=some r),PQ G 153 [V.agg (iD a),vI left] (vI r):=by
 intro n;induction n with
 |zero=>intro a left r h;rw [w_szExpr.eq_def] at h;cases h
 |succ n ih=>
  intro a left r h;rw [w_szExpr.eq_def] at h;dsimp only at h;refine pq aN Tryz.func153 rfl fun w X hC=>aO hC [.z (.b (true))] [2,4] [(2,V.tp (fT a))] ?_;obtain⟨x1,hx1,h⟩:=bd h;refine aO hC [oV (rK G hx1)] [1,5,6,7,8] [(1,vI x1)] (qs (aE hC [9,10] [(10,vD (x1<0))] (aV h (fun c1 h=>?_) fun c1 h=>?_)))
  ·obtain rfl:=so h;exact aE hC [4] [(4,vI (-1))] zr
  refine qk ?_;obtain⟨x2,hx2,h⟩:=bd h;refine aO hC [oV (rM G hx2)] [1,11,12,13,14] [(1,vI x2)] (qs (aE hC [15,16] [(16,vD (x2<0))] (aV h (fun c2 h=>?_) fun c2 h=>?_)))
  ·obtain rfl:=so h;exact aE hC [4] [(4,vI (-1))] zr
  refine qk ?_;obtain⟨x3,hx3,h⟩:=bd h;refine aO hC [oV (Q1 G n (w_szExpr n) (fun q0 q1 r h=>ih q0 q1 h) a.kids x2 hx3)] [1,17,18,19,20] [(1,vI x3)] (qs (aE hC [21,22] [(22,vD (x3<0))] (aV h (fun c3 h=>?_) fun c3 h=>?_)))
  ·obtain rfl:=so h;exact aE hC [4] [(4,vI (-1))] zr
  obtain rfl:=so h;exact qk (aE hC [4,23] [(4,vI x3)] zr)
theorem aAb{a}{left}{r}(h:vX n a left=some r):PQ G 128 [V.agg (iC a),vI left] (vI r):=by
 refine pq aN Tryz.func128 rfl fun w X hC=>aO hC [.z (.b (true))] [2,4] [(2,V.tp (mZ a))] ?_;obtain⟨x1,hx1,h⟩:=bd h;refine aO hC [oV (rM G hx1)] [1,5,6,7,8] [(1,vI x1)] (qs (aE hC [9,10] [(10,vD (x1<0))] (aV h (fun c1 h=>?_) fun c1 h=>?_)))
 ·obtain rfl:=so h;exact aE hC [4] [(4,vI (-1))] zr
 refine qk ?_;obtain⟨x2,hx2,h⟩:=bd h;refine aO hC [oV (aAe G n a.value x1 hx2)] [1,11,12,13,14] [(1,vI x2)] (qs (aE hC [15,16] [(16,vD (x2<0))] (aV h (fun c2 h=>?_) fun c2 h=>?_)))
 ·obtain rfl:=so h;exact aE hC [4] [(4,vI (-1))] zr
 obtain rfl:=so h;exact qk (aE hC [4,17] [(4,vI x2)] zr)
theorem P7{a}{left}{r}(h:sJ n a left=some r):PQ G 96 [vM aU a,vI left] (vI r):=by
 refine pq aN Tryz.func96 rfl fun w X hC=>bB hC [4] (aO hC [oN aU a] [1,6,7,8,9] [(1,vI (wr (left-(a.length:Int))))] (qs (aE hC [10,11] [(11,vD (wr (left-(a.length:Int))<0))] (aV h (fun c1 h=>?_) fun c1 h=>?_))))
 ·obtain rfl:=so h;exact aE hC [4] [(4,vI (-1))] zr
 refine qk (qs (aE hC [5] [(5,vI 0)] (qb (jC h (fun x_=>dI [(0,vM aU a),(1,vI x_.1),(5,vI x_.2)]) lS ?_))));rintro again3 ⟨x1,x2⟩ h;refine qs (aO hC [oN aU a] (fr 12 4) [(15,vK x2 a)] (aV h (fun c2 h=>?_) fun c2 h=>?_))
 ·refine qk (eN ?_);obtain⟨x4,hx4,x5,hx5,h⟩:=gT h;refine aO hC [oR aU hx4,oV (aAb G hx5)] [1,18,19,20,21,22,23] [(1,vI x5)] (aE hC [24,25] [(25,vD (x5<0))] (aV h (fun c3 h=>?_) fun c3 h=>qk (bA hC [5,16,17] [(5,vI (wr (x2+1)))] (lE h))));obtain rfl:=so h;exact aE hC [4] [(4,vI (-1))] zr
 obtain rfl:=so h;exact d4 (aE hC [4,26] [(4,vI x1)] zr)
theorem aAd{a}{left}{r}(h:vZ n a left=some r):PQ G 127 [V.agg (rX a),vI left] (vI r):=by
 refine pq aN Tryz.func127 rfl fun w X hC=>aO hC [.z (.b (true))] [2,4] [(2,V.tp (m0 a))] ?_;obtain⟨x1,hx1,h⟩:=bd h;refine aO hC [oV (kR G hx1)] [1,5,6,7,8] [(1,vI x1)] (qs (aE hC [9,10] [(10,vD (x1<0))] (aV h (fun c1 h=>?_) fun c1 h=>?_)))
 ·obtain rfl:=so h;exact aE hC [4] [(4,vI (-1))] zr
 refine qk ?_;obtain⟨x2,hx2,h⟩:=bd h;refine aO hC [oV (kR G hx2)] [1,11,12,13,14] [(1,vI x2)] (qs (aE hC [15,16] [(16,vD (x2<0))] (aV h (fun c2 h=>?_) fun c2 h=>?_)))
 ·obtain rfl:=so h;exact aE hC [4] [(4,vI (-1))] zr
 obtain rfl:=so h;exact qk (aE hC [4,17] [(4,vI x2)] zr)
theorem P9{a}{left}{r}(h:sK n a left=some r):PQ G 95 [vM aG a,vI left] (vI r):=by
 refine pq aN Tryz.func95 rfl fun w X hC=>bB hC [4] (aO hC [oN aG a] [1,6,7,8,9] [(1,vI (wr (left-(a.length:Int))))] (qs (aE hC [10,11] [(11,vD (wr (left-(a.length:Int))<0))] (aV h (fun c1 h=>?_) fun c1 h=>?_))))
 ·obtain rfl:=so h;exact aE hC [4] [(4,vI (-1))] zr
 refine qk (qs (aE hC [5] [(5,vI 0)] (qb (jC h (fun x_=>dI [(0,vM aG a),(1,vI x_.1),(5,vI x_.2)]) lS ?_))));rintro again3 ⟨x1,x2⟩ h;refine qs (aO hC [oN aG a] (fr 12 4) [(15,vK x2 a)] (aV h (fun c2 h=>?_) fun c2 h=>?_))
 ·refine qk (eN ?_);obtain⟨x4,hx4,x5,hx5,h⟩:=gT h;refine aO hC [oR aG hx4,oV (aAd G hx5)] [1,18,19,20,21,22,23] [(1,vI x5)] (aE hC [24,25] [(25,vD (x5<0))] (aV h (fun c3 h=>?_) fun c3 h=>qk (bA hC [5,16,17] [(5,vI (wr (x2+1)))] (lE h))));obtain rfl:=so h;exact aE hC [4] [(4,vI (-1))] zr
 obtain rfl:=so h;exact d4 (aE hC [4,26] [(4,vI x1)] zr)
theorem aAc{a}{left}{r}(h:vY n a left=some r):PQ G 61 [V.agg (C2 a),vI left] (vI r):=by
 refine pq aN Tryz.func61 rfl fun w X hC=>aO hC [.z (.b (true))] [2,4] [(2,V.tp (jE a))] ?_;obtain⟨x1,hx1,h⟩:=bd h;refine aO hC [oV (P9 G hx1)] [1,5,6,7,8] [(1,vI x1)] (qs (aE hC [9,10] [(10,vD (x1<0))] (aV h (fun c1 h=>?_) fun c1 h=>?_)))
 ·obtain rfl:=so h;exact aE hC [4] [(4,vI (-1))] zr
 refine qk ?_;obtain⟨x2,hx2,h⟩:=bd h;refine aO hC [oV (P7 G hx2)] [1,11,12,13,14] [(1,vI x2)] (qs (aE hC [15,16] [(16,vD (x2<0))] (aV h (fun c2 h=>?_) fun c2 h=>?_)))
 ·obtain rfl:=so h;exact aE hC [4] [(4,vI (-1))] zr
 obtain rfl:=so h;exact qk (aE hC [4,17] [(4,vI x2)] zr)
theorem P8{a}{left}{r}(h:zO n a left=some r):PQ G 34 [vM aR a,vI left] (vI r):=by
 refine pq aN Tryz.func34 rfl fun w X hC=>bB hC [4] (aO hC [oN aR a] [1,6,7,8,9] [(1,vI (wr (left-(a.length:Int))))] (qs (aE hC [10,11] [(11,vD (wr (left-(a.length:Int))<0))] (aV h (fun c1 h=>?_) fun c1 h=>?_))))
 ·obtain rfl:=so h;exact aE hC [4] [(4,vI (-1))] zr
 refine qk (qs (aE hC [5] [(5,vI 0)] (qb (jC h (fun x_=>dI [(0,vM aR a),(1,vI x_.1),(5,vI x_.2)]) lS ?_))));rintro again3 ⟨x1,x2⟩ h;refine qs (aO hC [oN aR a] (fr 12 4) [(15,vK x2 a)] (aV h (fun c2 h=>?_) fun c2 h=>?_))
 ·refine qk (eN ?_);obtain⟨x4,hx4,x5,hx5,h⟩:=gT h;refine aO hC [oR aR hx4,oV (aAc G hx5)] [1,18,19,20,21,22,23] [(1,vI x5)] (aE hC [24,25] [(25,vD (x5<0))] (aV h (fun c3 h=>?_) fun c3 h=>qk (bA hC [5,16,17] [(5,vI (wr (x2+1)))] (lE h))));obtain rfl:=so h;exact aE hC [4] [(4,vI (-1))] zr
 obtain rfl:=so h;exact d4 (aE hC [4,26] [(4,vI x1)] zr)
theorem zF{a}{left}{r}(h:mV n a left=some r):PQ G 8 [V.agg (fB a),vI left] (vI r):=by
 refine pq aN Tryz.func8 rfl fun w X hC=>aO hC [.z (.b (true))] [2,4] [(2,V.tp (cA a))] ?_;obtain⟨x1,hx1,h⟩:=bd h;refine aO hC [oV (I8 G hx1)] [1,5,6,7,8] [(1,vI x1)] (qs (aE hC [9,10] [(10,vD (x1<0))] (aV h (fun c1 h=>?_) fun c1 h=>?_)))
 ·obtain rfl:=so h;exact aE hC [4] [(4,vI (-1))] zr
 refine qk ?_;obtain⟨x2,hx2,h⟩:=bd h;refine aO hC [oV (P8 G hx2)] [1,11,12,13,14] [(1,vI x2)] (qs (aE hC [15,16] [(16,vD (x2<0))] (aV h (fun c2 h=>?_) fun c2 h=>?_)))
 ·obtain rfl:=so h;exact aE hC [4] [(4,vI (-1))] zr
 obtain rfl:=so h;exact qk (aE hC [4,17] [(4,vI x2)] zr)
theorem rP{list}{r}(h:lW n list=some r):PQ G 62 [vM aT list] (vB r):=by
 refine pq aN Tryz.func62 rfl fun w X hC=>bB hC [2] (qs (aE hC [3] [(3,vI 0)] (qb (jC h (fun x_=>dI [(0,vM aT list),(3,vI x_)]) lS ?_))));rintro again2 x1 h;refine qs (aO hC [oN aT list] (fr 6 4) [(9,vK x1 list)] (aV h (fun c1 h=>?_) fun c1 h=>?_))
 ·refine qk (eN ?_);obtain⟨x3,hx3,h⟩:=bd h;refine rq hC [oR aT hx3,.z (.nat 20)] [4,12,13,14,15] [(4,V.ref 20 0)] [(20,sc [vS x3.name,vM rI x3.dims])] [(20,true)] (qs (vj h (fun x_=>gB [(0,vM aT list),(3,vI x1),(4,V.ref 20 0),(56,vB x_)] [(20,E.cells [vS x3.name,vM rI x3.dims])] [20]) (fun j4 h=>?_) fun x6 h=>?_))
  ·refine aX h (fun c2 h=>?_) fun c2 h=>mT hC cU (rT 4 c2++sT 19) (fr 16 41) [(56,vB true)] (lE h);refine aX h (fun c3 h=>?_) fun c3 h=>mT hC cU (rF 4 c2++rT 4 c3++sT 15) (fr 16 41) [(56,vB true)] (lE h);refine aX h (fun c4 h=>?_) fun c4 h=>mT hC cU (rF 4 c2++rF 4 c3++rT 5 c4++sT 10) (fr 16 41) [(56,vB true)] (lE h);refine aX h (fun c5 h=>?_) fun c5 h=>?_
   ·exact aX h (fun c6 h=>mT hC cU (rF 4 c2++rF 4 c3++rF 3 c4++rF 9 c5++[oF c4,oF c5,oF c4,eF,eF,eF,oN rI x3.dims,eF,eF]++rF 3 c6++[oN rI x3.dims,oF c6,oF c6]) (fr 16 41) [(56,vD ((2:Int)<(x3.dims.length:Int)))] (lE h)) fun c6 h=>mT hC cU (rF 4 c2++rF 4 c3++rF 3 c4++rF 9 c5++[oF c4,oF c5,oF c4,eF,eF,eF,oN rI x3.dims,eF,eF]++rT 5 c6) (fr 16 41) [(56,vB true)] (lE h)
   obtain⟨x5,hx5,h⟩:=bd h;refine aX h (fun c7 h=>?_) fun c7 h=>mT hC cU (rF 4 c2++rF 4 c3++rF 3 c4++rT 4 c5++[oR aT hx5]++rT 5 c5++[oF c4,oT c5,oF c4]++rT 5 c7++sT 5) (fr 16 41) [(56,vB true)] (lE h);refine aX h (fun c8 h=>?_) fun c8 h=>mT hC cU (rF 4 c2++rF 4 c3++rF 3 c4++rT 4 c5++[oR aT hx5]++rT 5 c5++[oF c4,oT c5,oF c4]++rF 3 c7++[oN rI x3.dims,oF c7,oF c7]++rT 5 c8) (fr 16 41) [(56,vB true)] (lE h);exact mT hC cU (rF 4 c2++rF 4 c3++rF 3 c4++rT 4 c5++[oR aT hx5]++rT 5 c5++[oF c4,oT c5,oF c4]++rF 3 c7++[oN rI x3.dims,oF c7,oF c7]++rF 3 c8++[oN rI x3.dims,oF c8,oF c8]) (fr 16 41) [(56,vD ((2:Int)<(x3.dims.length:Int)))] (lE h)
  refine aV h (fun c9 h=>?_) fun c9 h=>?_
  ·cases h;exact aE hC [2] [(2,vB false)] zr
  refine qk (aE hC [5] [(5,vI 0)] (qb (jC h (fun x_=>gB [(0,vM aT list),(3,vI x1),(4,V.ref 20 0),(5,vI x_)] [(20,E.cells [vS x3.name,vM rI x3.dims])] [20]) lS ?_)));rintro again8 x7 h;refine qs (aO hC [oN rI x3.dims] (fr 57 5) [(61,vK x7 x3.dims)] (aV h (fun c10 h=>?_) fun c10 h=>d4 (bA hC [3,10,11] [(3,vI (wr (x1+1)))] (lE h))));refine qk (eN (vj h (fun x_=>gB [(0,vM aT list),(3,vI x1),(4,V.ref 20 0),(5,vI x7),(77,vB x_)] [(20,E.cells [vS x3.name,vM rI x3.dims])] [20]) (fun j9 h=>?_) fun x11 h=>?_))
  ·obtain⟨x10,hx10,h⟩:=bd h;exact aX h (fun c11 h=>bI hC ([oR rI hx10]++rF 4 c11++[oR rI hx10]++rF 3 c11) (fr 64 14) [(77,vD ((6:Int)<x10))] (lE h)) fun c11 h=>bI hC ([oR rI hx10]++rT 7 c11) (fr 64 14) [(77,vB true)] (lE h)
  refine aV h (fun c12 h=>?_) fun c12 h=>qk (bA hC [5,62,63] [(5,vI (wr (x7+1)))] (lE h));cases h;exact aE hC [2] [(2,vB false)] zr
 cases h;exact d4 (aO hC [oN aT list] [2,78,79,80] [(2,vD ((list.length:Int)≤4))] zr)
theorem jN{a}{point}{r}(h:eX n a point=some r):PQ G 119 [V.agg (b9 a),vM rI point] (vI r):=by
 refine pq aN Tryz.func119 rfl fun w X hC=>aO hC [.z (.b (true))] [2,4] [(2,V.tp (bR a))] (aE hC [5,7,8] [(5,vI a.const)] (qs (aE hC [6] [(6,vI 0)] (qb (jC h (fun x_=>dI [(1,vM rI point),(2,V.tp (bR a)),(5,vI x_.1),(6,vI x_.2)]) lS ?_)))));rintro again3 ⟨x1,x2⟩ h;refine qs (vj h (fun x_=>dI [(1,vM rI point),(2,V.tp (bR a)),(5,vI x1),(6,vI x2),(19,vB x_)]) (fun j4 h=>aX h (fun c1 h=>bI hC ([oN rI point]++rF 6 c1) (fr 9 11) [(19,vB false)] (lE h)) fun c1 h=>bI hC ([oN rI point]++rT 4 c1++[oN rI a.coefs,oT c1,oT c1]) (fr 9 11) [(19,vK x2 a.coefs)] (lE h)) fun x5 h=>?_);refine aV h (fun c2 h=>?_) fun c2 h=>?_
 ·refine qk (eN ?_);obtain⟨x6,hx6,x7,hx7,h⟩:=gT h;exact mT hC cU [oR rI hx6,oR rI hx7] [5,22,23,24,25,26,27,28,29,30,31,32,33] [(5,vI (wr (x1+(wr (x6*x7)))))] (bA hC [6,20,21] [(6,vI (wr (x2+1)))] (lE h))
 obtain rfl:=so h;exact d4 (aE hC [4,34] [(4,vI x1)] zr)
theorem uN{loop}{p}{r}(h:lA n loop p=some r):PQ G 117 [V.agg (rX loop),vM rI p] (V.tup [vI r.1,vI r.2]):=by
 refine pq aN Tryz.func117 rfl fun w X hC=>aO hC [.z (.b (true))] [2,4,5] [(2,V.tp (m0 loop))] ?_;obtain⟨x1,hx1,x2,hx2,h⟩:=gT h;refine aO hC [oR aD hx1,oV (jN G hx2)] [6,12,13,14,15,16,17] [(6,vI x2)] ?_;obtain⟨x3,hx3,x4,hx4,h⟩:=gT h;refine aO hC [oR aD hx3,oV (jN G hx4)] [7,18,19,20,21,22,23] [(7,vI x4)] (qs (aE hC [8] [(8,vI 1)] (qb (jC h (fun x_=>dI [(1,vM rI p),(2,V.tp (m0 loop)),(6,vI x_.1),(7,vI x4),(8,vI x_.2)]) lS ?_))));rintro again7 ⟨x5,x6⟩ h;refine qs (aO hC [oN aD loop.lo] (fr 24 5) [(28,vK x6 loop.lo)] (aV h (fun c1 h=>?_) fun c1 h=>?_))
 ·refine qk (vj h (fun x_=>dI [(1,vM rI p),(2,V.tp (m0 loop)),(6,vI x_),(7,vI x4),(8,vI x6)]) (fun j8 h=>?_) fun x11 h=>bA hC [8,29,30] [(8,vI (wr (x6+1)))] (lE h));refine qb ?_;obtain⟨x9,hx9,x10,hx10,h⟩:=gT h;exact aO hC [oR aD hx9,oV (jN G hx10)] [9,31,32,33,34,35,36,37] [(9,vI x10)] (aE hC [38,39,40] [(40,vD (x5<x10))] (aV h (fun c2 h=>bA hC [6,41] [(6,vI x10)] (lE h)) fun c2 h=>qk (lE h)))
 refine d4 (qs (aE hC [10] [(10,vI 1)] (qb (jC h (fun x_=>dI [(1,vM rI p),(2,V.tp (m0 loop)),(6,vI x5),(7,vI x_.1),(10,vI x_.2)]) lS ?_))));rintro again14 ⟨x12,x13⟩ h;refine qs (aO hC [oN aD loop.hi] (fr 42 5) [(46,vK x13 loop.hi)] (aV h (fun c3 h=>?_) fun c3 h=>?_))
 ·refine qk (vj h (fun x_=>dI [(1,vM rI p),(2,V.tp (m0 loop)),(6,vI x5),(7,vI x_),(10,vI x13)]) (fun j15 h=>?_) fun x18 h=>bA hC [10,47,48] [(10,vI (wr (x13+1)))] (lE h));refine qb ?_;obtain⟨x16,hx16,x17,hx17,h⟩:=gT h;exact aO hC [oR aD hx16,oV (jN G hx17)] [11,49,50,51,52,53,54,55] [(11,vI x17)] (aE hC [56,57,58] [(58,vD (x17<x12))] (aV h (fun c4 h=>bA hC [7,59] [(7,vI x17)] (lE h)) fun c4 h=>qk (lE h)))
 cases h;exact d4 (aE hC [4,5,60,61] [(4,vI x5),(5,vI x12)] zr)
theorem rQ(G:GS): ∀(n:Nat) (out:List (List Int)) (outG:Nat) (nest:List Loop) (p:List Int) {r:(List (List Int))} (h:s_l2Points n out nest p=some r),VQ G 81 [ar 40 outG 1 (rL rI) out] [ms 0 outG 1 (rL rI) out,vM aG nest,vM rI p] (ms 0 (outG+1) 1 (rL rI) r) [ar 40 (outG+1) 1 (rL rI) r]:=by
 intro n;induction n with
 |zero=>intro out outG nest p r h;rw [s_l2Points.eq_def] at h;cases h
 |succ n ih=>
  intro out outG nest p r h;rw [s_l2Points.eq_def] at h;dsimp only at h;refine vq aN Tryz.func81 rfl fun w X β0 hC hg=>bB hC [6] (qs (aO hC [oN rI p,oN aG nest] (fr 10 5) [(14,vD ((p.length:Int)=(nest.length:Int)))] (aV h (fun c1 h=>?_) fun c1 h=>?_)))
  ·obtain⟨x1,hx1,x2,hx2,h⟩:=gT h;obtain rfl:=so h;exact rq hC [.z (.nat 20),oA (bH rI hx1),.z (.at 3),.z (.fz 20 [18] []),.z (.int 0),oI [],oI p,oA (bH (rL rI) hx2),oQ (rwM (r:=(rL rI)) 1 (fun _=>rfl) out),oQ (rwM (r:=(rL rI)) 1 (fun _=>rfl) [x1])] [0,6,15,16,17,18,19,20] [(6,ms 0 (outG+1) 1 (rL rI) x2)] [(20,none),(0,some (ar 40 (outG+1) 1 (rL rI) x2))] [(20,true)] (qw (nM 6 0 outG (outG+1) 1 0 (List.map (rL rI) x2).length (e:= .arr 40 (outG+1) 1 (List.map (rL rI) x2)) rfl (by kernel_rfl) (by kernel_rfl) rfl rfl hg.1) zw)
  refine qk ?_;obtain⟨x3,hx3,x4,hx4,h⟩:=gT h;refine aO hC [oN rI p,oR aG hx3,oV (uN G hx4)] [7,8,21,22,23,24,25,26,27,28,29,30] [(7,vI x4.1),(8,vI x4.2)] (qs (aE hC [9,31] [(9,vI x4.1)] (qb (uU h (fun x_ g_=>gB [(0,ms 0 g_ 1 (rL rI) x_.1),(1,vM aG nest),(2,vM rI p),(8,vI x4.2),(9,vI x_.2)] [(0,ar 40 g_ 1 (rL rI) x_.1)] [0]) outG (lS) ?_))));rintro again8 ⟨x5,x6⟩ g7 h;refine qs (vj h (fun x_=>gB [(0,ms 0 g7 1 (rL rI) x5),(1,vM aG nest),(2,vM rI p),(8,vI x4.2),(9,vI x6),(39,vB x_)] [(0,ar 40 g7 1 (rL rI) x5)] [0]) (fun j9 h=>aX h (fun c2 h=>bI hC (rF 4 c2) (fr 32 8) [(39,vB false)] (lE h)) fun c2 h=>bI hC [oT c2,oT c2,oN (rL rI) x5,oT c2,oT c2] (fr 32 8) [(39,vD ((x5.length:Int)≤120))] (lE h)) fun x10 h=>?_);refine aV h (fun c3 h=>?_) fun c3 h=>?_
  ·refine qk (eN ?_);obtain⟨x11,hx11,x12,hx12,x13,hx13,h⟩:=yO h;exact rk hC [.z (.nat 20),oA (bH rI hx11),.z (.int 0),oI [],oI p,oA (bH rI hx12),.z (.at 2),.z (.fz 20 [49] []),oI x11,oI [x6],oC [0] [] (ih x5 g7 nest x12 hx13)] [0,42,43,44,45,46,47,48,49,50] [(0,ms 0 (g7+1) 1 (rL rI) x13)] [(20,none),(0,some (ar 40 (g7+1) 1 (rL rI) x13))] [(20,true),(0,true)] (bA hC [9,40,41] [(9,vI (wr (x6+1)))] ⟨(x13,wr (x6+1)),(g7+1),h,lS⟩)
  obtain rfl:=so h;exact d4 (aE hC [6,51] [(6,ms 0 g7 1 (rL rI) x5)] (qw (nM 6 0 outG g7 1 0 (List.map (rL rI) x5).length (e:= .arr 40 g7 1 (List.map (rL rI) x5)) rfl (by kernel_rfl) (by kernel_rfl) rfl rfl hg.1) zw))
theorem aAm(G:GS): ∀(n:Nat) (nest:List Loop) (p:List Int) (most:Int) {r:Int} (h:s_l2Work n nest p most=some r),PQ G 129 [vM aG nest,vM rI p,vI most] (vI r):=by
 intro n;induction n with
 |zero=>intro nest p most r h;rw [s_l2Work.eq_def] at h;cases h
 |succ n ih=>
  intro nest p most r h;rw [s_l2Work.eq_def] at h;dsimp only at h;refine pq aN Tryz.func129 rfl fun w X hC=>bB hC [6] (aE hC [7] [(7,vI 1)] (qs (aO hC [oN rI p,oN aG nest] (fr 11 5) [(15,vD ((p.length:Int)=(nest.length:Int)))] (aV h (fun c1 h=>?_) fun c1 h=>?_))))
  ·obtain rfl:=so h;exact aE hC [6,16] [(6,vI 1)] zr
  refine qk ?_;obtain⟨x1,hx1,x2,hx2,h⟩:=gT h;refine aO hC [oN rI p,oR aG hx1,oV (uN G hx2)] [8,9,17,18,19,20,21,22,23,24,25,26] [(8,vI x2.1),(9,vI x2.2)] (qs (aE hC [10,27] [(10,vI x2.1)] (qb (jC h (fun x_=>dI [(0,vM aG nest),(1,vM rI p),(2,vI most),(7,vI x_.1),(9,vI x2.2),(10,vI x_.2)]) lS ?_))));rintro again5 ⟨x3,x4⟩ h;refine qs (vj h (fun x_=>dI [(0,vM aG nest),(1,vM rI p),(2,vI most),(7,vI x3),(9,vI x2.2),(10,vI x4),(35,vB x_)]) (fun j6 h=>aX h (fun c2 h=>bI hC (rF 4 c2) (fr 28 8) [(35,vB false)] (lE h)) fun c2 h=>bI hC (rT 4 c2) (fr 28 8) [(35,vD (x3≤most))] (lE h)) fun x7 h=>?_);refine aV h (fun c3 h=>?_) fun c3 h=>?_
  ·refine qk (eN ?_);obtain⟨x8,hx8,x9,hx9,x10,hx10,h⟩:=yO h;exact rk hC [.z (.nat 20),oA (bH rI hx8),.z (.int 0),oI [],oI p,oA (bH rI hx9),.z (.b (true)),oI x8,oI [x4],oV (ih nest x9 (wr (most-x3)) hx10)] [7,38,39,40,41,42,43,44,45,46,47,48,49,50] [(7,vI (wr (x3+x10)))] [(20,some (ar 3 3 1 rI x9))] [(20,true)] (bA hC [10,36,37] [(10,vI (wr (x4+1)))] (lE h))
  obtain rfl:=so h;exact d4 (aE hC [6,51] [(6,vI x3)] zr)
theorem mJ{n_a0}{most}{r}(h:gF n n_a0 most=some r):PQ G 134 [vI n_a0,vI most] (vB r):=by refine pq aN Tryz.func134 rfl fun w X hC=>bB hC [4] (vj h (fun x_=>dI [(4,vB x_)]) (fun j1 h=>aX h (fun c1 h=>bI hC (rF 4 c1) (fr 4 10) [(4,vB false)] (lE h)) fun c1 h=>bI hC (rT 4 c1) (fr 4 10) [(4,vD (n_a0≤most))] (lE h)) fun x2 h=>?_);obtain rfl:=so h;exact zr
theorem cV{a}{r}(h:dX n a=some r):PQ G 154 [V.agg (b9 a)] (vB r):=by
 refine pq aN Tryz.func154 rfl fun w X hC=>aO hC [.z (.b (true))] [1,2] [(1,V.tp (bR a))] (qs (aE hC [3] [(3,vI 0)] (qb (jC h (fun x_=>dI [(1,V.tp (bR a)),(3,vI x_)]) lS ?_))));rintro again2 x1 h;refine qs (aO hC [oN rI a.coefs] (fr 4 5) [(8,vK x1 a.coefs)] (aV h (fun c1 h=>?_) fun c1 h=>?_))
 ·refine qk (eN ?_);obtain⟨x3,hx3,x4,hx4,h⟩:=gT h;refine aO hC [oR rI hx3,oV (mJ G hx4)] (fr 11 7) [(17,vB (!x4))] (aV h (fun c2 h=>?_) fun c2 h=>qk (bA hC [3,9,10] [(3,vI (wr (x1+1)))] (lE h)));obtain rfl:=so h;exact aE hC [2] [(2,vB false)] zr
 refine d4 (vj h (fun x_=>dI [(2,vB x_)]) (fun j5 h=>?_) fun x7 h=>?_)
 ·refine aX h (fun c3 h=>bI hC ([oN rI a.coefs]++rF 4 c3) [2,18,19,20,21,22,23,24,25,26] [(2,vB false)] (lE h)) fun c3 h=>?_;obtain⟨x6,hx6,h⟩:=bd h;exact bI hC ([oN rI a.coefs]++rT 3 c3++[oV (mJ G hx6),oT c3]) [2,18,19,20,21,22,23,24,25,26] [(2,vB x6)] (lE h)
 obtain rfl:=so h;exact zr
theorem nH{a}{r}(h:iU n a=some r):PQ G 155 [V.agg (b9 a)] (vI r):=by
 refine pq aN Tryz.func155 rfl fun w X hC=>aO hC [.z (.b (true))] [1,2] [(1,V.tp (bR a))] (aE hC [3] [(3,vI 0)] (qs (aE hC [4] [(4,vI 0)] (qb (jC h (fun x_=>dI [(1,V.tp (bR a)),(3,vI x_.1),(4,vI x_.2)]) lS ?_)))));rintro again3 ⟨x1,x2⟩ h;refine qs (aO hC [oN rI a.coefs] (fr 5 5) [(9,vK x2 a.coefs)] (aV h (fun c1 h=>?_) fun c1 h=>?_))
 ·refine qk (vj h (fun x_=>dI [(1,V.tp (bR a)),(3,vI x_),(4,vI x2)]) (fun j4 h=>?_) fun x6 h=>bA hC [4,10,11] [(4,vI (wr (x2+1)))] (lE h));refine qb ?_;obtain⟨x5,hx5,h⟩:=bd h;exact aO hC [oR rI hx5] (fr 12 6) [(17,vB (!decide (x5=0)))] (aV h (fun c2 h=>bA hC [3,18,19] [(3,vI (wr (x2+1)))] (lE h)) fun c2 h=>qk (lE h))
 obtain rfl:=so h;exact d4 (aE hC [2,20] [(2,vI x1)] zr)
theorem pF{list}{depth}{r}(h:m9 n list depth=some r):PQ G 149 [vM aD list,vI depth] (vB r):=by
 refine pq aN Tryz.func149 rfl fun w X hC=>bB hC [4] (qs (aE hC [5] [(5,vI 0)] (qb (jC h (fun x_=>dI [(0,vM aD list),(1,vI depth),(5,vI x_)]) lS ?_))));rintro again2 x1 h;refine qs (aO hC [oN aD list] (fr 6 4) [(9,vK x1 list)] (aV h (fun c1 h=>?_) fun c1 h=>?_))
 ·refine qk (eN (vj h (fun x_=>dI [(0,vM aD list),(1,vI depth),(5,vI x1),(26,vB x_)]) (fun j3 h=>?_) fun x7 h=>?_))
  ·obtain⟨x4,hx4,x5,hx5,h⟩:=gT h;refine aX h (fun c2 h=>?_) fun c2 h=>bI hC ([oR aD hx4,oV (cV G hx5)]++rT 8 c2) (fr 12 15) [(26,vB true)] (lE h);obtain⟨x6,hx6,h⟩:=bd h;exact bI hC ([oR aD hx4,oV (cV G hx5)]++rF 3 c2++[oR aD hx4,oF c2,oF c2,oV (nH G hx6)]++rF 3 c2) (fr 12 15) [(26,vD (depth<x6))] (lE h)
  refine aV h (fun c3 h=>?_) fun c3 h=>qk (bA hC [5,10,11] [(5,vI (wr (x1+1)))] (lE h));obtain rfl:=so h;exact aE hC [4] [(4,vB false)] zr
 refine d4 (vj h (fun x_=>dI [(4,vB x_)]) (fun j8 h=>?_) fun x9 h=>?_)
 ·exact aX h (fun c4 h=>bI hC ([oN aD list]++rF 4 c4) [4,27,28,29,30,31,32,33,34] [(4,vB false)] (lE h)) fun c4 h=>bI hC [oN aD list,oT c4,oT c4,oN aD list,oT c4,oT c4] [4,27,28,29,30,31,32,33,34] [(4,vD ((list.length:Int)≤2))] (lE h)
 obtain rfl:=so h;exact zr
theorem oO{nest}{r}(h:jX n nest=some r):PQ G 124 [vM aG nest] (vB r):=by
 refine pq aN Tryz.func124 rfl fun w X hC=>bB hC [2] (qs (aE hC [3] [(3,vI 0)] (qb (jC h (fun x_=>dI [(0,vM aG nest),(3,vI x_)]) lS ?_))));rintro again2 x1 h;refine qs (vj h (fun x_=>dI [(0,vM aG nest),(3,vI x1),(12,vB x_)]) (fun j3 h=>aX h (fun c1 h=>bI hC ([oN aG nest]++rF 4 c1) (fr 4 9) [(12,vB false)] (lE h)) fun c1 h=>bI hC [oN aG nest,oT c1,oT c1,oN aG nest,oT c1,oT c1] (fr 4 9) [(12,vD ((nest.length:Int)≤4))] (lE h)) fun x4 h=>?_);refine aV h (fun c2 h=>?_) fun c2 h=>?_
 ·refine qk (eN (vj h (fun x_=>dI [(0,vM aG nest),(3,vI x1),(32,vB x_)]) (fun j5 h=>?_) fun x9 h=>?_))
  ·obtain⟨x6,hx6,x7,hx7,h⟩:=gT h;refine aX h (fun c3 h=>?_) fun c3 h=>bI hC ([oR aG hx6,oV (pF G hx7)]++rT 9 c3) (fr 15 18) [(32,vB true)] (lE h);obtain⟨x8,hx8,h⟩:=bd h;exact bI hC ([oR aG hx6,oV (pF G hx7)]++rF 3 c3++[oR aG hx6]++rF 4 c3++[oV (pF G hx8),oF c3,oF c3]) (fr 15 18) [(32,vB (!x8))] (lE h)
  refine aV h (fun c4 h=>?_) fun c4 h=>qk (bA hC [3,13,14] [(3,vI (wr (x1+1)))] (lE h));cases h;exact aE hC [2] [(2,vB false)] zr
 cases h;exact d4 (aO hC [oN aG nest] [2,33,34,35] [(2,vD ((nest.length:Int)≤4))] zr)
theorem yB{nest}{r}(h:iH n nest=some r):VQ G 97 [] [vM aG nest] (V.tup [ms 0 1 1 (rL rI) r.1,vB r.2]) [ar 40 1 1 (rL rI) r.1]:=by
 refine vq aN Tryz.func97 rfl fun w X β0 hC hg=>bB hC [2,3] (qs (vj h (fun x_=>dI [(0,vM aG nest),(12,vB x_)]) (fun j1 h=>?_) fun x4 h=>?_))
 ·obtain⟨x2,hx2,h⟩:=bd h;refine aX h (fun c1 h=>?_) fun c1 h=>bI hC ([oV (oO G hx2)]++rT 4 c1) (fr 5 8) [(12,vB true)] (lE h);obtain⟨x3,hx3,h⟩:=bd h;exact bI hC [oV (oO G hx2),oF c1,oF c1,oV (aAm G n nest [] 1200 hx3),oF c1,oF c1] (fr 5 8) [(12,vD ((1200:Int)<x3))] (lE h)
 refine aV h (fun c2 h=>?_) fun c2 h=>?_
 ·cases h;exact rq hC [.z (.nat 20)] [2,3,13] [(2,ms 20 1 1 (rL rI) []),(3,vB false)] [(20,some (ar 40 1 1 (rL rI) []))] [(20,true)] (xR hC 2 20 (ms 0 1 1 (rL rI) []) (ar 40 1 1 (rL rI) []))
 refine qk ?_;obtain⟨x5,hx5,h⟩:=bd h;refine rq hC [.z (.nat 20),oC [20] [] (rQ G n [] 1 nest [] hx5)] [4,14,15,16] [(4,ms 20 2 1 (rL rI) x5)] [(20,some (ar 40 2 1 (rL rI) x5))] [(20,true),(20,true)] (qs (aO hC [oN (rL rI) x5] [17,18,19] [(19,vD ((120:Int)<(x5.length:Int)))] (aV h (fun c3 h=>?_) fun c3 h=>?_)))
 ·cases h;exact rq hC [.z (.nat 21)] [2,3,20] [(2,ms 21 1 1 (rL rI) []),(3,vB false)] [(21,some (ar 40 1 1 (rL rI) []))] [(21,true)] (xR hC 2 21 (ms 0 1 1 (rL rI) []) (ar 40 1 1 (rL rI) []))
 cases h;exact qk (aE hC [2,3,21] [(2,ms 20 2 1 (rL rI) x5),(3,vB true)] (xR hC 2 20 (ms 0 1 1 (rL rI) x5) (ar 40 1 1 (rL rI) x5)))
theorem mI{a}{depth}{r}(h:jF n a depth=some r):PQ G 130 [V.agg (dG a),vI depth] (vB r):=by
 refine pq aN Tryz.func130 rfl fun w X hC=>aO hC [.z (.b (true))] [2,4] [(2,V.tp (cF a))] (qs (aE hC [5] [(5,vI 0)] (qb (jC h (fun x_=>dI [(1,vI depth),(2,V.tp (cF a)),(5,vI x_)]) lS ?_))));rintro again2 x1 h;refine qs (aO hC [oN aD a.subs] (fr 6 5) [(10,vK x1 a.subs)] (aV h (fun c1 h=>?_) fun c1 h=>?_))
 ·refine qk (eN (vj h (fun x_=>dI [(1,vI depth),(2,V.tp (cF a)),(5,vI x1),(29,vB x_)]) (fun j3 h=>?_) fun x7 h=>?_))
  ·obtain⟨x4,hx4,x5,hx5,h⟩:=gT h;refine aX h (fun c2 h=>?_) fun c2 h=>bI hC ([oR aD hx4,oV (cV G hx5)]++rT 9 c2) (fr 13 17) [(29,vB true)] (lE h);obtain⟨x6,hx6,h⟩:=bd h;exact bI hC ([oR aD hx4,oV (cV G hx5)]++rF 4 c2++[oR aD hx4,oF c2,oF c2,oV (nH G hx6)]++rF 3 c2) (fr 13 17) [(29,vD (depth<x6))] (lE h)
  refine aV h (fun c3 h=>?_) fun c3 h=>qk (bA hC [5,11,12] [(5,vI (wr (x1+1)))] (lE h));obtain rfl:=so h;exact aE hC [4] [(4,vB false)] zr
 refine d4 (vj h (fun x_=>dI [(4,vB x_)]) (fun j8 h=>?_) fun x9 h=>?_)
 ·refine aX h (fun c4 h=>bI hC (rF 4 c4++sF 14) [4,30,31,32,33,34,35,36,37,38,39,40,41,42,43,44,45,46,47,48,49,50,51,52,53,54,55] [(4,vB false)] (lE h)) fun c4 h=>?_;refine aX h (fun c5 h=>bI hC (rT 4 c4++rF 4 c5++sF 10) [4,30,31,32,33,34,35,36,37,38,39,40,41,42,43,44,45,46,47,48,49,50,51,52,53,54,55] [(4,vB false)] (lE h)) fun c5 h=>?_;refine aX h (fun c6 h=>bI hC (rT 4 c4++rT 4 c5++rF 5 c6++sF 5) [4,30,31,32,33,34,35,36,37,38,39,40,41,42,43,44,45,46,47,48,49,50,51,52,53,54,55] [(4,vB false)] (lE h)) fun c6 h=>?_;refine aX h (fun c7 h=>bI hC (rT 4 c4++rT 4 c5++rT 3 c6++[oN aD a.subs,oT c6,oT c6]++rF 5 c7) [4,30,31,32,33,34,35,36,37,38,39,40,41,42,43,44,45,46,47,48,49,50,51,52,53,54,55] [(4,vB false)] (lE h)) fun c7 h=>?_;exact bI hC (rT 4 c4++rT 4 c5++rT 3 c6++[oN aD a.subs,oT c6,oT c6]++rT 3 c7++[oN aD a.subs,oT c7,oT c7]) [4,30,31,32,33,34,35,36,37,38,39,40,41,42,43,44,45,46,47,48,49,50,51,52,53,54,55] [(4,vD ((a.subs.length:Int)≤2))] (lE h)
 obtain rfl:=so h;exact zr
theorem yA{kind}{r}(h:qJ n kind=some r):PQ G 156 [vI kind] (vI r):=by
 refine pq aN Tryz.func156 rfl fun w X hC=>bB hC [2] (qs (aE hC [3] [(3,vI kind)] (qb (vj h (fun x_=>dI [(3,vI kind),(4,vB x_)]) (fun j1 h=>aE hC [4,5] [(4,vD (kind=1))] (aV h (fun c1 h=>qk (lE h)) fun c1 h=>aE hC [4,6] [(4,vD (kind=2))] (aV h (fun c2 h=>qk (lE h)) fun c2 h=>bA hC [4,7] [(4,vD (kind=3))] (lE h)))) fun x2 h=>?_))));refine aV h (fun c3 h=>?_) fun c3 h=>?_
 ·cases h;exact aE hC [2] [(2,vI 0)] zr
 refine vj h (fun x_=>dI [(8,vB x_)]) (fun j3 h=>aE hC [8,9] [(8,vD (kind=4))] (aV h (fun c4 h=>qk (lE h)) fun c4 h=>aE hC [8,10] [(8,vD (kind=5))] (aV h (fun c5 h=>qk (lE h)) fun c5 h=>bA hC [8,11] [(8,vD (kind=6))] (lE h)))) fun x4 h=>?_;refine aV h (fun c6 h=>?_) fun c6 h=>?_
 ·cases h;exact aE hC [2] [(2,vI 2)] zr
 cases h;exact qk (aE hC [2] [(2,vI (-1))] zr)
theorem iB{a}{r}(h:iT n a=some r):PQ G 177 [V.agg (dG a)] (vB r):=by refine pq aN Tryz.func177 rfl fun w X hC=>aO hC [.z (.b (true))] [1,2] [(1,V.tp (cF a))] (vj h (fun x_=>dI [(2,vB x_)]) (fun j1 h=>aX h (fun c1 h=>bI hC (rF 5 c1) (fr 2 10) [(2,vB false)] (lE h)) fun c1 h=>bI hC (rT 3 c1++[oN aD a.subs,oT c1,oT c1]) (fr 2 10) [(2,vD ((a.subs.length:Int)=0))] (lE h)) fun x2 h=>?_);obtain rfl:=so h;exact zr
theorem gM{a}{r}(h:kZ n a=some r):PQ G 178 [V.agg (b9 a)] (vB r):=by refine pq aN Tryz.func178 rfl fun w X hC=>aO hC [.z (.b (true))] [1,2] [(1,V.tp (bR a))] (vj h (fun x_=>dI [(2,vB x_)]) (fun j1 h=>aX h (fun c1 h=>bI hC ([oN rI a.coefs]++rF 4 c1) (fr 2 10) [(2,vB false)] (lE h)) fun c1 h=>bI hC ([oN rI a.coefs]++rT 4 c1) (fr 2 10) [(2,vD (a.const=0))] (lE h)) fun x2 h=>?_);obtain rfl:=so h;exact zr
theorem aBT{e}{depth}{r}(h:vA n e depth=some r):PQ G 157 [V.agg (iD e),vI depth] (vB r):=by
 refine pq aN Tryz.func157 rfl fun w X hC=>aO hC [.z (.b (true))] [2,4] [(2,V.tp (fT e))] (qs (aE hC [5,6,7] [(7,vD (e.kind=2))] (aV h (fun c1 h=>?_) fun c1 h=>?_)))
 ·refine vj h (fun x_=>dI [(4,vB x_)]) (fun j1 h=>?_) fun x5 h=>?_
  ·refine aX h (fun c2 h=>bI hC (rF 4 c2++sF 10) [4,8,9,10,11,12,13,14,15,16,17,18,19,20,21,22,23,24,25,26,27] [(4,vB false)] (lE h)) fun c2 h=>?_;obtain⟨x2,hx2,h⟩:=bd h;refine aX h (fun c3 h=>bI hC (rT 3 c2++[oV (iB G hx2),oT c2]++rF 4 c3++sF 6) [4,8,9,10,11,12,13,14,15,16,17,18,19,20,21,22,23,24,25,26,27] [(4,vB false)] (lE h)) fun c3 h=>?_;obtain⟨x3,hx3,h⟩:=bd h;refine aX h (fun c4 h=>bI hC (rT 3 c2++[oV (iB G hx2),oT c2]++rT 3 c3++[oV (cV G hx3),oT c3]++rF 6 c4) [4,8,9,10,11,12,13,14,15,16,17,18,19,20,21,22,23,24,25,26,27] [(4,vB false)] (lE h)) fun c4 h=>?_;obtain⟨x4,hx4,h⟩:=bd h;exact bI hC (rT 3 c2++[oV (iB G hx2),oT c2]++rT 3 c3++[oV (cV G hx3),oT c3]++rT 3 c4++[oV (nH G hx4)]++rT 3 c4) [4,8,9,10,11,12,13,14,15,16,17,18,19,20,21,22,23,24,25,26,27] [(4,vD (x4≤depth))] (lE h)
  obtain rfl:=so h;exact zr
 refine qk (qs (aE hC [28,29,30] [(30,vD (e.kind=3))] (aV h (fun c5 h=>?_) fun c5 h=>?_)))
 ·refine vj h (fun x_=>dI [(4,vB x_)]) (fun j6 h=>?_) fun x9 h=>?_
  ·refine aX h (fun c6 h=>bI hC (rF 4 c6++sF 5) [4,31,32,33,34,35,36,37,38,39,40,41,42,43,44] [(4,vB false)] (lE h)) fun c6 h=>?_;obtain⟨x7,hx7,h⟩:=bd h;refine aX h (fun c7 h=>bI hC (rT 3 c6++[oV (gM G hx7),oT c6]++rF 5 c7) [4,31,32,33,34,35,36,37,38,39,40,41,42,43,44] [(4,vB false)] (lE h)) fun c7 h=>?_;obtain⟨x8,hx8,h⟩:=bd h;exact bI hC (rT 3 c6++[oV (gM G hx7),oT c6]++rT 4 c7++[oV (mI G hx8),oT c7]) [4,31,32,33,34,35,36,37,38,39,40,41,42,43,44] [(4,vB x8)] (lE h)
  obtain rfl:=so h;exact zr
 refine qk (qs (aE hC [45,46,47] [(47,vD (e.kind=1))] (aV h (fun c8 h=>?_) fun c8 h=>?_)))
 ·refine vj h (fun x_=>dI [(4,vB x_)]) (fun j10 h=>?_) fun x13 h=>?_
  ·refine aX h (fun c9 h=>bI hC (rF 4 c9++sF 8) [4,48,49,50,51,52,53,54,55,56,57,58,59,60,61,62,63,64,65] [(4,vB false)] (lE h)) fun c9 h=>?_;refine aX h (fun c10 h=>bI hC (rT 4 c9++rF 4 c10++sF 4) [4,48,49,50,51,52,53,54,55,56,57,58,59,60,61,62,63,64,65] [(4,vB false)] (lE h)) fun c10 h=>?_;obtain⟨x11,hx11,h⟩:=bd h;refine aX h (fun c11 h=>bI hC (rT 4 c9++rT 3 c10++[oV (gM G hx11),oT c10]++rF 4 c11) [4,48,49,50,51,52,53,54,55,56,57,58,59,60,61,62,63,64,65] [(4,vB false)] (lE h)) fun c11 h=>?_;obtain⟨x12,hx12,h⟩:=bd h;exact bI hC (rT 4 c9++rT 3 c10++[oV (gM G hx11),oT c10]++rT 3 c11++[oV (iB G hx12),oT c11]) [4,48,49,50,51,52,53,54,55,56,57,58,59,60,61,62,63,64,65] [(4,vB x12)] (lE h)
  obtain rfl:=so h;exact zr
 refine qk (vj h (fun x_=>dI [(4,vB x_)]) (fun j14 h=>?_) fun x17 h=>?_)
 ·refine aX h (fun c12 h=>bI hC (rF 4 c12++sF 4) [4,66,67,68,69,70,71,72,73,74,75,76,77,78] [(4,vB false)] (lE h)) fun c12 h=>?_;obtain⟨x15,hx15,h⟩:=bd h;refine aX h (fun c13 h=>bI hC (rT 3 c12++[oV (gM G hx15),oT c12]++rF 4 c13) [4,66,67,68,69,70,71,72,73,74,75,76,77,78] [(4,vB false)] (lE h)) fun c13 h=>?_;obtain⟨x16,hx16,h⟩:=bd h;exact bI hC (rT 3 c12++[oV (gM G hx15),oT c12]++rT 3 c13++[oV (iB G hx16),oT c13]) [4,66,67,68,69,70,71,72,73,74,75,76,77,78] [(4,vB x16)] (lE h)
 obtain rfl:=so h;exact zr
theorem Q9(G:GS): ∀(n:Nat) (e:Expr) (depth:Int) (levels:Int) {r:Bool} (h:s_l3Shape n e depth levels=some r),PQ G 131 [V.agg (iD e),vI depth,vI levels] (vB r):=by
 intro n;induction n with
 |zero=>intro e depth levels r h;rw [s_l3Shape.eq_def] at h;cases h
 |succ n ih=>
  intro e depth levels r h;rw [s_l3Shape.eq_def] at h;dsimp only at h;refine pq aN Tryz.func131 rfl fun w X hC=>aO hC [.z (.b (true))] [3,6] [(3,V.tp (fT e))] (qs (vj h (fun x_=>dI [(1,vI depth),(2,vI levels),(3,V.tp (fT e)),(24,vB x_)]) (fun j1 h=>?_) fun x4 h=>?_))
  ·refine aX h (fun c1 h=>?_) fun c1 h=>mT hC cU (rT 8 c1++sT 5) (fr 8 17) [(24,vB true)] (lE h);obtain⟨x2,hx2,h⟩:=bd h;refine aX h (fun c2 h=>?_) fun c2 h=>mT hC cU (rF 3 c1++[oV (yA G hx2)]++rF 3 c1++[oN aS e.kids,oF c1,oF c1]++rT 5 c2) (fr 8 17) [(24,vB true)] (lE h);obtain⟨x3,hx3,h⟩:=bd h;exact mT hC cU (rF 3 c1++[oV (yA G hx2)]++rF 3 c1++[oN aS e.kids,oF c1,oF c1]++rF 3 c2++[oV (aBT G hx3),oF c2,oF c2]) (fr 8 17) [(24,vB (!x3))] (lE h)
  refine aV h (fun c3 h=>?_) fun c3 h=>?_
  ·cases h;exact aE hC [6] [(6,vB false)] zr
  refine qk (qs (aE hC [7] [(7,vI 0)] (qb (jC h (fun x_=>dI [(1,vI depth),(2,vI levels),(3,V.tp (fT e)),(7,vI x_)]) lS ?_))));rintro again6 x5 h;refine qs (aO hC [oN aS e.kids] (fr 25 5) [(29,vK x5 e.kids)] (aV h (fun c4 h=>?_) fun c4 h=>?_))
  ·refine qk (eN ?_);obtain⟨x7,hx7,x8,hx8,h⟩:=gT h;refine aO hC [.z (.row (gI x7)),oQ (f7 aS hx7 (cL x7)),oV (ih x7 depth (wr (levels-1)) hx8)] (fr 32 10) [(41,vB (!x8))] (aV h (fun c5 h=>?_) fun c5 h=>qk (bA hC [7,30,31] [(7,vI (wr (x5+1)))] (lE h)));cases h;exact aE hC [6] [(6,vB false)] zr
  cases h;exact d4 (aE hC [6] [(6,vB true)] zr)
theorem R2(G:GS): ∀(n:Nat) (e:Expr) (levels:Int) {r:Int} (h:s_l3Count n e levels=some r),PQ G 132 [V.agg (iD e),vI levels] (vI r):=by
 intro n;induction n with
 |zero=>intro e levels r h;rw [s_l3Count.eq_def] at h;cases h
 |succ n ih=>
  intro e levels r h;rw [s_l3Count.eq_def] at h;dsimp only at h;refine pq aN Tryz.func132 rfl fun w X hC=>aO hC [.z (.b (true))] [2,4] [(2,V.tp (fT e))] (aE hC [5] [(5,vI 1)] (qs (aE hC [6] [(6,vI 0)] (qb (jC h (fun x_=>dI [(1,vI levels),(2,V.tp (fT e)),(5,vI x_.1),(6,vI x_.2)]) lS ?_)))));rintro again3 ⟨x1,x2⟩ h;refine qs (vj h (fun x_=>dI [(1,vI levels),(2,V.tp (fT e)),(5,vI x1),(6,vI x2),(15,vB x_)]) (fun j4 h=>aX h (fun c1 h=>bI hC ([oN aS e.kids]++rF 3 c1) (fr 7 9) [(15,vB false)] (lE h)) fun c1 h=>bI hC ([oN aS e.kids]++rT 3 c1) (fr 7 9) [(15,vD ((0:Int)<levels))] (lE h)) fun x5 h=>?_);refine aV h (fun c2 h=>?_) fun c2 h=>?_
  ·refine qk (eN ?_);obtain⟨x6,hx6,x7,hx7,h⟩:=gT h;exact bI hC [.z (.row (gI x6)),oQ (f7 aS hx6 (cL x6)),oV (ih x6 (wr (levels-1)) hx7)] [5,18,19,20,21,22,23,24,25,26,27] [(5,vI (wr (x1+x7)))] (bA hC [6,16,17] [(6,vI (wr (x2+1)))] (lE h))
  obtain rfl:=so h;exact d4 (aE hC [4,28] [(4,vI x1)] zr)
theorem zH{s}{depth}{r}(h:jW n s depth=some r):PQ G 98 [V.agg (iC s),vI depth] (vB r):=by
 refine pq aN Tryz.func98 rfl fun w X hC=>aO hC [.z (.b (true))] [2,4] [(2,V.tp (mZ s))] (qs (vj h (fun x_=>dI [(2,V.tp (mZ s)),(24,vB x_)]) (fun j1 h=>?_) fun x4 h=>?_))
 ·refine aX h (fun c1 h=>?_) fun c1 h=>bI hC (rT 3 c1++sT 12) (fr 5 20) [(24,vB true)] (lE h);refine aX h (fun c2 h=>?_) fun c2 h=>bI hC (rF 3 c1++rT 6 c2++sT 6) (fr 5 20) [(24,vB true)] (lE h);obtain⟨x2,hx2,h⟩:=bd h;refine aX h (fun c3 h=>?_) fun c3 h=>bI hC (rF 3 c1++rF 4 c2++[oV (mI G hx2),oF c2,oF c2]++rT 6 c3) (fr 5 20) [(24,vB true)] (lE h);obtain⟨x3,hx3,h⟩:=bd h;exact bI hC (rF 3 c1++rF 4 c2++[oV (mI G hx2),oF c2,oF c2]++rF 4 c3++[oV (Q9 G n s.value depth 5 hx3),oF c3,oF c3]) (fr 5 20) [(24,vB (!x3))] (lE h)
 refine aV h (fun c4 h=>?_) fun c4 h=>?_
 ·cases h;exact aE hC [4] [(4,vB false)] zr
 refine qk ?_;obtain⟨x5,hx5,h⟩:=bd h;cases h;exact aO hC [oV (R2 G n s.value 5 hx5)] [4,25,26,27,28] [(4,vD (x5≤12))] zr
end Go.Lift
