/- The walks: the code computes what the plain functions say. -/
import Derived.Test.YtaedfpoebdhocaaGreatYModels
import Derived.Test.YtaedfpoebdhocaaGreatYTab
import Derived.Test.YtaedfpoebdhocaaGreatYCells
set_option maxRecDepth 10000
set_option linter.unusedVariables false
namespace Go.Lift
open Go Go.Proofs
variable (G:GS) {n:Nat}
theorem rY{a}{left}{r}(h:o5 n a left=some r):PQ G 57 [vM rI a,vI left] (vI r):=by
 refine pq aQ Tryz.func57 rfl fun w X hC=>bC hC [4] (aU hC [oN rI a] [1,5,6,7,8] [(1,vI (wr (left-(a.length:Int))))] (qs (aE hC [9,10] [(10,vD (wr (left-(a.length:Int))<0))] (aZ h (fun c1 h=>?_) fun c1 h=>?_))))
 ·cases h;exact aE hC [4] [(4,vI (-1))] zr
 cases h;exact qk (aE hC [4,11] [(4,vI (wr (left-(a.length:Int))))] zr)
theorem X8{a}{left}{r}(h:uY n a left=some r):PQ G 60 [V.agg [vS a.name,vM rI a.dims],vI left] (vI r):=by
 refine pq aQ Tryz.func60 rfl fun w X hC=>aU hC [.z (.b (true))] [2,4] [(2,V.tp [T.str a.name,T.sl (List.map rI a.dims)])] (aE hC [1,5,6,7,8,9] [(1,vI (wr (left-(a.name.length:Int))))] (qs (aE hC [10,11] [(11,vD (wr (left-(a.name.length:Int))<0))] (aZ h (fun c1 h=>?_) fun c1 h=>?_))))
 ·obtain rfl:=so h;exact aE hC [4] [(4,vI (-1))] zr
 refine qk ?_;obtain⟨x1,hx1,h⟩:=bd h;refine aU hC [oV (rY G hx1)] [1,12,13,14,15] [(1,vI x1)] (qs (aE hC [16,17] [(17,vD (x1<0))] (aZ h (fun c2 h=>?_) fun c2 h=>?_)))
 ·obtain rfl:=so h;exact aE hC [4] [(4,vI (-1))] zr
 obtain rfl:=so h;exact qk (aE hC [4,18] [(4,vI x1)] zr)
theorem R1{a}{left}{r}(h:rC n a left=some r):PQ G 33 [vM aN a,vI left] (vI r):=by
 refine pq aQ Tryz.func33 rfl fun w X hC=>bC hC [4] (aU hC [oN aN a] [1,6,7,8,9] [(1,vI (wr (left-(a.length:Int))))] (qs (aE hC [10,11] [(11,vD (wr (left-(a.length:Int))<0))] (aZ h (fun c1 h=>?_) fun c1 h=>?_))))
 ·obtain rfl:=so h;exact aE hC [4] [(4,vI (-1))] zr
 refine qk (qs (aE hC [5] [(5,vI 0)] (qb (gF h (fun x_=>cP [(0,vM aN a),(1,vI x_.1),(5,vI x_.2)]) lS ?_))));rintro again3 ⟨x1,x2⟩ h;refine qs (aU hC [oN aN a] (fr 12 4) [(15,vK x2 a)] (aZ h (fun c2 h=>?_) fun c2 h=>?_))
 ·refine qk (eG ?_);obtain⟨x4,hx4,x5,hx5,h⟩:=gG h;refine aU hC [oR aN hx4,oV (X8 G hx5)] [1,18,19,20,21,22,23] [(1,vI x5)] (aE hC [24,25] [(25,vD (x5<0))] (aZ h (fun c3 h=>?_) fun c3 h=>qk (bG hC [5,16,17] [(5,vI (wr (x2+1)))] (lE h))));obtain rfl:=so h;exact aE hC [4] [(4,vI (-1))] zr
 obtain rfl:=so h;exact d4 (aE hC [4,26] [(4,vI x1)] zr)
theorem tZ{a}{left}{r}(h:nF n a left=some r):PQ G 175 [V.agg (cH a),vI left] (vI r):=by
 refine pq aQ Tryz.func175 rfl fun w X hC=>aU hC [.z (.b (true))] [2,4] [(2,V.tp (bW a))] ?_;obtain⟨x1,hx1,h⟩:=bd h;refine aU hC [oV (rY G hx1)] [1,5,6,7,8] [(1,vI x1)] (qs (aE hC [9,10] [(10,vD (x1<0))] (aZ h (fun c1 h=>?_) fun c1 h=>?_)))
 ·obtain rfl:=so h;exact aE hC [4] [(4,vI (-1))] zr
 obtain rfl:=so h;exact qk (aE hC [4,11] [(4,vI x1)] zr)
theorem mO{a}{left}{r}(h:iW n a left=some r):PQ G 151 [vM aA a,vI left] (vI r):=by
 refine pq aQ Tryz.func151 rfl fun w X hC=>bC hC [4] (aU hC [oN aA a] [1,6,7,8,9] [(1,vI (wr (left-(a.length:Int))))] (qs (aE hC [10,11] [(11,vD (wr (left-(a.length:Int))<0))] (aZ h (fun c1 h=>?_) fun c1 h=>?_))))
 ·obtain rfl:=so h;exact aE hC [4] [(4,vI (-1))] zr
 refine qk (qs (aE hC [5] [(5,vI 0)] (qb (gF h (fun x_=>cP [(0,vM aA a),(1,vI x_.1),(5,vI x_.2)]) lS ?_))));rintro again3 ⟨x1,x2⟩ h;refine qs (aU hC [oN aA a] (fr 12 4) [(15,vK x2 a)] (aZ h (fun c2 h=>?_) fun c2 h=>?_))
 ·refine qk (eG ?_);obtain⟨x4,hx4,x5,hx5,h⟩:=gG h;refine aU hC [oR aA hx4,oV (tZ G hx5)] [1,18,19,20,21,22,23] [(1,vI x5)] (aE hC [24,25] [(25,vD (x5<0))] (aZ h (fun c3 h=>?_) fun c3 h=>qk (bG hC [5,16,17] [(5,vI (wr (x2+1)))] (lE h))));obtain rfl:=so h;exact aE hC [4] [(4,vI (-1))] zr
 obtain rfl:=so h;exact d4 (aE hC [4,26] [(4,vI x1)] zr)
theorem t0{a}{left}{r}(h:nG n a left=some r):PQ G 152 [V.agg (eL a),vI left] (vI r):=by
 refine pq aQ Tryz.func152 rfl fun w X hC=>aU hC [.z (.b (true))] [2,4] [(2,V.tp (cO a))] (aE hC [1,5,6,7,8,9] [(1,vI (wr (left-(a.array.length:Int))))] (qs (aE hC [10,11] [(11,vD (wr (left-(a.array.length:Int))<0))] (aZ h (fun c1 h=>?_) fun c1 h=>?_))))
 ·obtain rfl:=so h;exact aE hC [4] [(4,vI (-1))] zr
 refine qk ?_;obtain⟨x1,hx1,h⟩:=bd h;refine aU hC [oV (mO G hx1)] [1,12,13,14,15] [(1,vI x1)] (qs (aE hC [16,17] [(17,vD (x1<0))] (aZ h (fun c2 h=>?_) fun c2 h=>?_)))
 ·obtain rfl:=so h;exact aE hC [4] [(4,vI (-1))] zr
 obtain rfl:=so h;exact qk (aE hC [4,18] [(4,vI x1)] zr)
theorem X7(G:GS)(n:Nat)(self:Expr→Int→Option Int)(hself: ∀(q0:Expr) (q1:Int) {r:Int},self q0 q1=some r→PQ G 153 [V.agg (jG q0),vI q1] (vI r))(a:List Expr)(left:Int){r:Int}(h:uX n self a left=some r):PQ G 176 [vM aC a,vI left] (vI r):=by
 refine pq aQ Tryz.func176 rfl fun w X hC=>bC hC [4] (aU hC [oN aC a] [1,6,7,8,9] [(1,vI (wr (left-(a.length:Int))))] (qs (aE hC [10,11] [(11,vD (wr (left-(a.length:Int))<0))] (aZ h (fun c1 h=>?_) fun c1 h=>?_))))
 ·obtain rfl:=so h;exact aE hC [4] [(4,vI (-1))] zr
 refine qk (qs (aE hC [5] [(5,vI 0)] (qb (gF h (fun x_=>cP [(0,vM aC a),(1,vI x_.1),(5,vI x_.2)]) lS ?_))));rintro again3 ⟨x1,x2⟩ h;refine qs (aU hC [oN aC a] (fr 12 4) [(15,vK x2 a)] (aZ h (fun c2 h=>?_) fun c2 h=>?_))
 ·refine qk (eG ?_);obtain⟨x4,hx4,x5,hx5,h⟩:=gG h;refine aU hC [.z (.row (bI x4)),oQ (dV aC hx4 (aL x4)),oV (hself x4 x1 hx5)] [1,18,19,20,21,22,23] [(1,vI x5)] (aE hC [24,25] [(25,vD (x5<0))] (aZ h (fun c3 h=>?_) fun c3 h=>qk (bG hC [5,16,17] [(5,vI (wr (x2+1)))] (lE h))));obtain rfl:=so h;exact aE hC [4] [(4,vI (-1))] zr
 obtain rfl:=so h;exact d4 (aE hC [4,26] [(4,vI x1)] zr)
theorem aBh(G:GS): ∀(n:Nat) (a:Expr) (left:Int) {r:Int} (h:w_szExpr n a left=some r),PQ G 153 [V.agg (jG a),vI left] (vI r):=by
 intro n;induction n with
 |zero=>intro a left r h;rw [w_szExpr.eq_def] at h;cases h
 |succ n ih=>
  intro a left r h;rw [w_szExpr.eq_def] at h;dsimp only at h;refine pq aQ Tryz.func153 rfl fun w X hC=>aU hC [.z (.b (true))] [2,4] [(2,V.tp (fN a))] ?_;obtain⟨x1,hx1,h⟩:=bd h;refine aU hC [oV (tZ G hx1)] [1,5,6,7,8] [(1,vI x1)] (qs (aE hC [9,10] [(10,vD (x1<0))] (aZ h (fun c1 h=>?_) fun c1 h=>?_)))
  ·obtain rfl:=so h;exact aE hC [4] [(4,vI (-1))] zr
  refine qk ?_;obtain⟨x2,hx2,h⟩:=bd h;refine aU hC [oV (t0 G hx2)] [1,11,12,13,14] [(1,vI x2)] (qs (aE hC [15,16] [(16,vD (x2<0))] (aZ h (fun c2 h=>?_) fun c2 h=>?_)))
  ·obtain rfl:=so h;exact aE hC [4] [(4,vI (-1))] zr
  refine qk ?_;obtain⟨x3,hx3,h⟩:=bd h;refine aU hC [oV (X7 G n (w_szExpr n) (fun q0 q1 r h=>ih q0 q1 h) a.kids x2 hx3)] [1,17,18,19,20] [(1,vI x3)] (qs (aE hC [21,22] [(22,vD (x3<0))] (aZ h (fun c3 h=>?_) fun c3 h=>?_)))
  ·obtain rfl:=so h;exact aE hC [4] [(4,vI (-1))] zr
  obtain rfl:=so h;exact qk (aE hC [4,23] [(4,vI x3)] zr)
theorem aBe{a}{left}{r}(h:yJ n a left=some r):PQ G 128 [V.agg (jP a),vI left] (vI r):=by
 refine pq aQ Tryz.func128 rfl fun w X hC=>aU hC [.z (.b (true))] [2,4] [(2,V.tp (oD a))] ?_;obtain⟨x1,hx1,h⟩:=bd h;refine aU hC [oV (t0 G hx1)] [1,5,6,7,8] [(1,vI x1)] (qs (aE hC [9,10] [(10,vD (x1<0))] (aZ h (fun c1 h=>?_) fun c1 h=>?_)))
 ·obtain rfl:=so h;exact aE hC [4] [(4,vI (-1))] zr
 refine qk ?_;obtain⟨x2,hx2,h⟩:=bd h;refine aU hC [oV (aBh G n a.value x1 hx2)] [1,11,12,13,14] [(1,vI x2)] (qs (aE hC [15,16] [(16,vD (x2<0))] (aZ h (fun c2 h=>?_) fun c2 h=>?_)))
 ·obtain rfl:=so h;exact aE hC [4] [(4,vI (-1))] zr
 obtain rfl:=so h;exact qk (aE hC [4,17] [(4,vI x2)] zr)
theorem X4{a}{left}{r}(h:uV n a left=some r):PQ G 96 [vM aG a,vI left] (vI r):=by
 refine pq aQ Tryz.func96 rfl fun w X hC=>bC hC [4] (aU hC [oN aG a] [1,6,7,8,9] [(1,vI (wr (left-(a.length:Int))))] (qs (aE hC [10,11] [(11,vD (wr (left-(a.length:Int))<0))] (aZ h (fun c1 h=>?_) fun c1 h=>?_))))
 ·obtain rfl:=so h;exact aE hC [4] [(4,vI (-1))] zr
 refine qk (qs (aE hC [5] [(5,vI 0)] (qb (gF h (fun x_=>cP [(0,vM aG a),(1,vI x_.1),(5,vI x_.2)]) lS ?_))));rintro again3 ⟨x1,x2⟩ h;refine qs (aU hC [oN aG a] (fr 12 4) [(15,vK x2 a)] (aZ h (fun c2 h=>?_) fun c2 h=>?_))
 ·refine qk (eG ?_);obtain⟨x4,hx4,x5,hx5,h⟩:=gG h;refine aU hC [oR aG hx4,oV (aBe G hx5)] [1,18,19,20,21,22,23] [(1,vI x5)] (aE hC [24,25] [(25,vD (x5<0))] (aZ h (fun c3 h=>?_) fun c3 h=>qk (bG hC [5,16,17] [(5,vI (wr (x2+1)))] (lE h))));obtain rfl:=so h;exact aE hC [4] [(4,vI (-1))] zr
 obtain rfl:=so h;exact d4 (aE hC [4,26] [(4,vI x1)] zr)
theorem aBg{a}{left}{r}(h:yL n a left=some r):PQ G 127 [V.agg (q8 a),vI left] (vI r):=by
 refine pq aQ Tryz.func127 rfl fun w X hC=>aU hC [.z (.b (true))] [2,4] [(2,V.tp (oE a))] ?_;obtain⟨x1,hx1,h⟩:=bd h;refine aU hC [oV (mO G hx1)] [1,5,6,7,8] [(1,vI x1)] (qs (aE hC [9,10] [(10,vD (x1<0))] (aZ h (fun c1 h=>?_) fun c1 h=>?_)))
 ·obtain rfl:=so h;exact aE hC [4] [(4,vI (-1))] zr
 refine qk ?_;obtain⟨x2,hx2,h⟩:=bd h;refine aU hC [oV (mO G hx2)] [1,11,12,13,14] [(1,vI x2)] (qs (aE hC [15,16] [(16,vD (x2<0))] (aZ h (fun c2 h=>?_) fun c2 h=>?_)))
 ·obtain rfl:=so h;exact aE hC [4] [(4,vI (-1))] zr
 obtain rfl:=so h;exact qk (aE hC [4,17] [(4,vI x2)] zr)
theorem X6{a}{left}{r}(h:uW n a left=some r):PQ G 95 [vM aH a,vI left] (vI r):=by
 refine pq aQ Tryz.func95 rfl fun w X hC=>bC hC [4] (aU hC [oN aH a] [1,6,7,8,9] [(1,vI (wr (left-(a.length:Int))))] (qs (aE hC [10,11] [(11,vD (wr (left-(a.length:Int))<0))] (aZ h (fun c1 h=>?_) fun c1 h=>?_))))
 ·obtain rfl:=so h;exact aE hC [4] [(4,vI (-1))] zr
 refine qk (qs (aE hC [5] [(5,vI 0)] (qb (gF h (fun x_=>cP [(0,vM aH a),(1,vI x_.1),(5,vI x_.2)]) lS ?_))));rintro again3 ⟨x1,x2⟩ h;refine qs (aU hC [oN aH a] (fr 12 4) [(15,vK x2 a)] (aZ h (fun c2 h=>?_) fun c2 h=>?_))
 ·refine qk (eG ?_);obtain⟨x4,hx4,x5,hx5,h⟩:=gG h;refine aU hC [oR aH hx4,oV (aBg G hx5)] [1,18,19,20,21,22,23] [(1,vI x5)] (aE hC [24,25] [(25,vD (x5<0))] (aZ h (fun c3 h=>?_) fun c3 h=>qk (bG hC [5,16,17] [(5,vI (wr (x2+1)))] (lE h))));obtain rfl:=so h;exact aE hC [4] [(4,vI (-1))] zr
 obtain rfl:=so h;exact d4 (aE hC [4,26] [(4,vI x1)] zr)
theorem aBf{a}{left}{r}(h:yK n a left=some r):PQ G 61 [V.agg (C7 a),vI left] (vI r):=by
 refine pq aQ Tryz.func61 rfl fun w X hC=>aU hC [.z (.b (true))] [2,4] [(2,V.tp (jN a))] ?_;obtain⟨x1,hx1,h⟩:=bd h;refine aU hC [oV (X6 G hx1)] [1,5,6,7,8] [(1,vI x1)] (qs (aE hC [9,10] [(10,vD (x1<0))] (aZ h (fun c1 h=>?_) fun c1 h=>?_)))
 ·obtain rfl:=so h;exact aE hC [4] [(4,vI (-1))] zr
 refine qk ?_;obtain⟨x2,hx2,h⟩:=bd h;refine aU hC [oV (X4 G hx2)] [1,11,12,13,14] [(1,vI x2)] (qs (aE hC [15,16] [(16,vD (x2<0))] (aZ h (fun c2 h=>?_) fun c2 h=>?_)))
 ·obtain rfl:=so h;exact aE hC [4] [(4,vI (-1))] zr
 obtain rfl:=so h;exact qk (aE hC [4,17] [(4,vI x2)] zr)
theorem X5{a}{left}{r}(h:H0 n a left=some r):PQ G 34 [vM aJ a,vI left] (vI r):=by
 refine pq aQ Tryz.func34 rfl fun w X hC=>bC hC [4] (aU hC [oN aJ a] [1,6,7,8,9] [(1,vI (wr (left-(a.length:Int))))] (qs (aE hC [10,11] [(11,vD (wr (left-(a.length:Int))<0))] (aZ h (fun c1 h=>?_) fun c1 h=>?_))))
 ·obtain rfl:=so h;exact aE hC [4] [(4,vI (-1))] zr
 refine qk (qs (aE hC [5] [(5,vI 0)] (qb (gF h (fun x_=>cP [(0,vM aJ a),(1,vI x_.1),(5,vI x_.2)]) lS ?_))));rintro again3 ⟨x1,x2⟩ h;refine qs (aU hC [oN aJ a] (fr 12 4) [(15,vK x2 a)] (aZ h (fun c2 h=>?_) fun c2 h=>?_))
 ·refine qk (eG ?_);obtain⟨x4,hx4,x5,hx5,h⟩:=gG h;refine aU hC [oR aJ hx4,oV (aBf G hx5)] [1,18,19,20,21,22,23] [(1,vI x5)] (aE hC [24,25] [(25,vD (x5<0))] (aZ h (fun c3 h=>?_) fun c3 h=>qk (bG hC [5,16,17] [(5,vI (wr (x2+1)))] (lE h))));obtain rfl:=so h;exact aE hC [4] [(4,vI (-1))] zr
 obtain rfl:=so h;exact d4 (aE hC [4,26] [(4,vI x1)] zr)
theorem G0{a}{left}{r}(h:o4 n a left=some r):PQ G 8 [V.agg (fP a),vI left] (vI r):=by
 refine pq aQ Tryz.func8 rfl fun w X hC=>aU hC [.z (.b (true))] [2,4] [(2,V.tp (bZ a))] ?_;obtain⟨x1,hx1,h⟩:=bd h;refine aU hC [oV (R1 G hx1)] [1,5,6,7,8] [(1,vI x1)] (qs (aE hC [9,10] [(10,vD (x1<0))] (aZ h (fun c1 h=>?_) fun c1 h=>?_)))
 ·obtain rfl:=so h;exact aE hC [4] [(4,vI (-1))] zr
 refine qk ?_;obtain⟨x2,hx2,h⟩:=bd h;refine aU hC [oV (X5 G hx2)] [1,11,12,13,14] [(1,vI x2)] (qs (aE hC [15,16] [(16,vD (x2<0))] (aZ h (fun c2 h=>?_) fun c2 h=>?_)))
 ·obtain rfl:=so h;exact aE hC [4] [(4,vI (-1))] zr
 obtain rfl:=so h;exact qk (aE hC [4,17] [(4,vI x2)] zr)
theorem uB{list}{r}(h:nI n list=some r):PQ G 62 [vM aN list] (vB r):=by
 refine pq aQ Tryz.func62 rfl fun w X hC=>bC hC [2] (qs (aE hC [3] [(3,vI 0)] (qb (gF h (fun x_=>cP [(0,vM aN list),(3,vI x_)]) lS ?_))));rintro again2 x1 h;refine qs (aU hC [oN aN list] (fr 6 4) [(9,vK x1 list)] (aZ h (fun c1 h=>?_) fun c1 h=>?_))
 ·refine qk (eG ?_);obtain⟨x3,hx3,h⟩:=bd h;refine rq hC [oR aN hx3,.z (.nat 20)] [4,12,13,14,15] [(4,V.ref 20 0)] [(20,sc [vS x3.name,vM rI x3.dims])] [(20,true)] (qs (vj h (fun x_=>iE [(0,vM aN list),(3,vI x1),(4,V.ref 20 0),(56,vB x_)] [(20,E.cells [vS x3.name,vM rI x3.dims])] [20]) (fun j4 h=>?_) fun x6 h=>?_))
  ·refine bA h (fun c2 h=>?_) fun c2 h=>nE hC cG (rT 4 c2++sT 19) (fr 16 41) [(56,vB true)] (lE h);refine bA h (fun c3 h=>?_) fun c3 h=>nE hC cG (rF 4 c2++rT 4 c3++sT 15) (fr 16 41) [(56,vB true)] (lE h);refine bA h (fun c4 h=>?_) fun c4 h=>nE hC cG (rF 4 c2++rF 4 c3++rT 5 c4++sT 10) (fr 16 41) [(56,vB true)] (lE h);refine bA h (fun c5 h=>?_) fun c5 h=>?_
   ·exact bA h (fun c6 h=>nE hC cG (rF 4 c2++rF 4 c3++rF 3 c4++rF 9 c5++[oF c4,oF c5,oF c4,eF,eF,eF,oN rI x3.dims,eF,eF]++rF 3 c6++[oN rI x3.dims,oF c6,oF c6]) (fr 16 41) [(56,vD ((2:Int)<(x3.dims.length:Int)))] (lE h)) fun c6 h=>nE hC cG (rF 4 c2++rF 4 c3++rF 3 c4++rF 9 c5++[oF c4,oF c5,oF c4,eF,eF,eF,oN rI x3.dims,eF,eF]++rT 5 c6) (fr 16 41) [(56,vB true)] (lE h)
   obtain⟨x5,hx5,h⟩:=bd h;refine bA h (fun c7 h=>?_) fun c7 h=>nE hC cG (rF 4 c2++rF 4 c3++rF 3 c4++rT 4 c5++[oR aN hx5]++rT 5 c5++[oF c4,oT c5,oF c4]++rT 5 c7++sT 5) (fr 16 41) [(56,vB true)] (lE h);refine bA h (fun c8 h=>?_) fun c8 h=>nE hC cG (rF 4 c2++rF 4 c3++rF 3 c4++rT 4 c5++[oR aN hx5]++rT 5 c5++[oF c4,oT c5,oF c4]++rF 3 c7++[oN rI x3.dims,oF c7,oF c7]++rT 5 c8) (fr 16 41) [(56,vB true)] (lE h);exact nE hC cG (rF 4 c2++rF 4 c3++rF 3 c4++rT 4 c5++[oR aN hx5]++rT 5 c5++[oF c4,oT c5,oF c4]++rF 3 c7++[oN rI x3.dims,oF c7,oF c7]++rF 3 c8++[oN rI x3.dims,oF c8,oF c8]) (fr 16 41) [(56,vD ((2:Int)<(x3.dims.length:Int)))] (lE h)
  refine aZ h (fun c9 h=>?_) fun c9 h=>?_
  ·cases h;exact aE hC [2] [(2,vB false)] zr
  refine qk (aE hC [5] [(5,vI 0)] (qb (gF h (fun x_=>iE [(0,vM aN list),(3,vI x1),(4,V.ref 20 0),(5,vI x_)] [(20,E.cells [vS x3.name,vM rI x3.dims])] [20]) lS ?_)));rintro again8 x7 h;refine qs (aU hC [oN rI x3.dims] (fr 57 5) [(61,vK x7 x3.dims)] (aZ h (fun c10 h=>?_) fun c10 h=>d4 (bG hC [3,10,11] [(3,vI (wr (x1+1)))] (lE h))));refine qk (eG (vj h (fun x_=>iE [(0,vM aN list),(3,vI x1),(4,V.ref 20 0),(5,vI x7),(77,vB x_)] [(20,E.cells [vS x3.name,vM rI x3.dims])] [20]) (fun j9 h=>?_) fun x11 h=>?_))
  ·obtain⟨x10,hx10,h⟩:=bd h;exact bA h (fun c11 h=>bK hC ([oR rI hx10]++rF 4 c11++[oR rI hx10]++rF 3 c11) (fr 64 14) [(77,vD ((6:Int)<x10))] (lE h)) fun c11 h=>bK hC ([oR rI hx10]++rT 7 c11) (fr 64 14) [(77,vB true)] (lE h)
  refine aZ h (fun c12 h=>?_) fun c12 h=>qk (bG hC [5,62,63] [(5,vI (wr (x7+1)))] (lE h));cases h;exact aE hC [2] [(2,vB false)] zr
 cases h;exact d4 (aU hC [oN aN list] [2,78,79,80] [(2,vD ((list.length:Int)≤4))] zr)
theorem iH{a}{point}{r}(h:eV n a point=some r):PQ G 119 [V.agg (cH a),vM rI point] (vI r):=by
 refine pq aQ Tryz.func119 rfl fun w X hC=>aU hC [.z (.b (true))] [2,4] [(2,V.tp (bW a))] (aE hC [5,7,8] [(5,vI a.const)] (qs (aE hC [6] [(6,vI 0)] (qb (gF h (fun x_=>cP [(1,vM rI point),(2,V.tp (bW a)),(5,vI x_.1),(6,vI x_.2)]) lS ?_)))));rintro again3 ⟨x1,x2⟩ h;refine qs (vj h (fun x_=>cP [(1,vM rI point),(2,V.tp (bW a)),(5,vI x1),(6,vI x2),(19,vB x_)]) (fun j4 h=>bA h (fun c1 h=>bK hC ([oN rI point]++rF 6 c1) (fr 9 11) [(19,vB false)] (lE h)) fun c1 h=>bK hC ([oN rI point]++rT 4 c1++[oN rI a.coefs,oT c1,oT c1]) (fr 9 11) [(19,vK x2 a.coefs)] (lE h)) fun x5 h=>?_);refine aZ h (fun c2 h=>?_) fun c2 h=>?_
 ·refine qk (eG ?_);obtain⟨x6,hx6,x7,hx7,h⟩:=gG h;exact nE hC cG [oR rI hx6,oR rI hx7] [5,22,23,24,25,26,27,28,29,30,31,32,33] [(5,vI (wr (x1+(wr (x6*x7)))))] (bG hC [6,20,21] [(6,vI (wr (x2+1)))] (lE h))
 obtain rfl:=so h;exact d4 (aE hC [4,34] [(4,vI x1)] zr)
theorem pO{loop}{p}{r}(h:hK n loop p=some r):PQ G 117 [V.agg (q8 loop),vM rI p] (V.tup [vI r.1,vI r.2]):=by
 refine pq aQ Tryz.func117 rfl fun w X hC=>aU hC [.z (.b (true))] [2,4,5] [(2,V.tp (oE loop))] ?_;obtain⟨x1,hx1,x2,hx2,h⟩:=gG h;refine aU hC [oR aA hx1,oV (iH G hx2)] [6,12,13,14,15,16,17] [(6,vI x2)] ?_;obtain⟨x3,hx3,x4,hx4,h⟩:=gG h;refine aU hC [oR aA hx3,oV (iH G hx4)] [7,18,19,20,21,22,23] [(7,vI x4)] (qs (aE hC [8] [(8,vI 1)] (qb (gF h (fun x_=>cP [(1,vM rI p),(2,V.tp (oE loop)),(6,vI x_.1),(7,vI x4),(8,vI x_.2)]) lS ?_))));rintro again7 ⟨x5,x6⟩ h;refine qs (aU hC [oN aA loop.lo] (fr 24 5) [(28,vK x6 loop.lo)] (aZ h (fun c1 h=>?_) fun c1 h=>?_))
 ·refine qk (vj h (fun x_=>cP [(1,vM rI p),(2,V.tp (oE loop)),(6,vI x_),(7,vI x4),(8,vI x6)]) (fun j8 h=>?_) fun x11 h=>bG hC [8,29,30] [(8,vI (wr (x6+1)))] (lE h));refine qb ?_;obtain⟨x9,hx9,x10,hx10,h⟩:=gG h;exact aU hC [oR aA hx9,oV (iH G hx10)] [9,31,32,33,34,35,36,37] [(9,vI x10)] (aE hC [38,39,40] [(40,vD (x5<x10))] (aZ h (fun c2 h=>bG hC [6,41] [(6,vI x10)] (lE h)) fun c2 h=>qk (lE h)))
 refine d4 (qs (aE hC [10] [(10,vI 1)] (qb (gF h (fun x_=>cP [(1,vM rI p),(2,V.tp (oE loop)),(6,vI x5),(7,vI x_.1),(10,vI x_.2)]) lS ?_))));rintro again14 ⟨x12,x13⟩ h;refine qs (aU hC [oN aA loop.hi] (fr 42 5) [(46,vK x13 loop.hi)] (aZ h (fun c3 h=>?_) fun c3 h=>?_))
 ·refine qk (vj h (fun x_=>cP [(1,vM rI p),(2,V.tp (oE loop)),(6,vI x5),(7,vI x_),(10,vI x13)]) (fun j15 h=>?_) fun x18 h=>bG hC [10,47,48] [(10,vI (wr (x13+1)))] (lE h));refine qb ?_;obtain⟨x16,hx16,x17,hx17,h⟩:=gG h;exact aU hC [oR aA hx16,oV (iH G hx17)] [11,49,50,51,52,53,54,55] [(11,vI x17)] (aE hC [56,57,58] [(58,vD (x17<x12))] (aZ h (fun c4 h=>bG hC [7,59] [(7,vI x17)] (lE h)) fun c4 h=>qk (lE h)))
 cases h;exact d4 (aE hC [4,5,60,61] [(4,vI x5),(5,vI x12)] zr)
theorem R3(G:GS): ∀(n:Nat) (out:List (List Int)) (outG:Nat) (nest:List Loop) (p:List Int) {r:(List (List Int))} (h:s_l2Points n out nest p=some r),VQ G 81 [ar 40 outG 1 (rL rI) out] [ms 0 outG 1 (rL rI) out,vM aH nest,vM rI p] (ms 0 (outG+1) 1 (rL rI) r) [ar 40 (outG+1) 1 (rL rI) r]:=by
 intro n;induction n with
 |zero=>intro out outG nest p r h;rw [s_l2Points.eq_def] at h;cases h
 |succ n ih=>
  intro out outG nest p r h;rw [s_l2Points.eq_def] at h;dsimp only at h;refine vq aQ Tryz.func81 rfl fun w X β0 hC hg=>bC hC [6] (qs (aU hC [oN rI p,oN aH nest] (fr 10 5) [(14,vD ((p.length:Int)=(nest.length:Int)))] (aZ h (fun c1 h=>?_) fun c1 h=>?_)))
  ·obtain⟨x1,hx1,x2,hx2,h⟩:=gG h;obtain rfl:=so h;exact rq hC [.z (.nat 20),oA (dY rI hx1),.z (.at 3),.z (.fz 20 [18] []),.z (.int 0),oI [],oI p,oA (dY (rL rI) hx2),oQ (rwM (r:=(rL rI)) 1 (fun _=>rfl) out),oQ (rwM (r:=(rL rI)) 1 (fun _=>rfl) [x1])] [0,6,15,16,17,18,19,20] [(6,ms 0 (outG+1) 1 (rL rI) x2)] [(20,none),(0,some (ar 40 (outG+1) 1 (rL rI) x2))] [(20,true)] (qw (pX 6 0 outG (outG+1) 1 0 (List.map (rL rI) x2).length (e:= .arr 40 (outG+1) 1 (List.map (rL rI) x2)) rfl (by kernel_rfl) (by kernel_rfl) rfl rfl hg.1) zw)
  refine qk ?_;obtain⟨x3,hx3,x4,hx4,h⟩:=gG h;refine aU hC [oN rI p,oR aH hx3,oV (pO G hx4)] [7,8,21,22,23,24,25,26,27,28,29,30] [(7,vI x4.1),(8,vI x4.2)] (qs (aE hC [9,31] [(9,vI x4.1)] (qb (vlN h (fun x_ g_=>iE [(0,ms 0 g_ 1 (rL rI) x_.1),(1,vM aH nest),(2,vM rI p),(8,vI x4.2),(9,vI x_.2)] [(0,ar 40 g_ 1 (rL rI) x_.1)] [0]) outG (lS) ?_))));rintro again8 ⟨x5,x6⟩ g7 h;refine qs (vj h (fun x_=>iE [(0,ms 0 g7 1 (rL rI) x5),(1,vM aH nest),(2,vM rI p),(8,vI x4.2),(9,vI x6),(39,vB x_)] [(0,ar 40 g7 1 (rL rI) x5)] [0]) (fun j9 h=>bA h (fun c2 h=>bK hC (rF 4 c2) (fr 32 8) [(39,vB false)] (lE h)) fun c2 h=>bK hC [oT c2,oT c2,oN (rL rI) x5,oT c2,oT c2] (fr 32 8) [(39,vD ((x5.length:Int)≤120))] (lE h)) fun x10 h=>?_);refine aZ h (fun c3 h=>?_) fun c3 h=>?_
  ·refine qk (eG ?_);obtain⟨x11,hx11,x12,hx12,x13,hx13,h⟩:=yE h;exact rk hC [.z (.nat 20),oA (dY rI hx11),.z (.int 0),oI [],oI p,oA (dY rI hx12),.z (.at 2),.z (.fz 20 [49] []),oI x11,oI [x6],oC [0] [] (ih x5 g7 nest x12 hx13)] [0,42,43,44,45,46,47,48,49,50] [(0,ms 0 (g7+1) 1 (rL rI) x13)] [(20,none),(0,some (ar 40 (g7+1) 1 (rL rI) x13))] [(20,true),(0,true)] (bG hC [9,40,41] [(9,vI (wr (x6+1)))] ⟨(x13,wr (x6+1)),(g7+1),h,lS⟩)
  obtain rfl:=so h;exact d4 (aE hC [6,51] [(6,ms 0 g7 1 (rL rI) x5)] (qw (pX 6 0 outG g7 1 0 (List.map (rL rI) x5).length (e:= .arr 40 g7 1 (List.map (rL rI) x5)) rfl (by kernel_rfl) (by kernel_rfl) rfl rfl hg.1) zw))
theorem aBo(G:GS): ∀(n:Nat) (nest:List Loop) (p:List Int) (most:Int) {r:Int} (h:s_l2Work n nest p most=some r),PQ G 129 [vM aH nest,vM rI p,vI most] (vI r):=by
 intro n;induction n with
 |zero=>intro nest p most r h;rw [s_l2Work.eq_def] at h;cases h
 |succ n ih=>
  intro nest p most r h;rw [s_l2Work.eq_def] at h;dsimp only at h;refine pq aQ Tryz.func129 rfl fun w X hC=>bC hC [6] (aE hC [7] [(7,vI 1)] (qs (aU hC [oN rI p,oN aH nest] (fr 11 5) [(15,vD ((p.length:Int)=(nest.length:Int)))] (aZ h (fun c1 h=>?_) fun c1 h=>?_))))
  ·obtain rfl:=so h;exact aE hC [6,16] [(6,vI 1)] zr
  refine qk ?_;obtain⟨x1,hx1,x2,hx2,h⟩:=gG h;refine aU hC [oN rI p,oR aH hx1,oV (pO G hx2)] [8,9,17,18,19,20,21,22,23,24,25,26] [(8,vI x2.1),(9,vI x2.2)] (qs (aE hC [10,27] [(10,vI x2.1)] (qb (gF h (fun x_=>cP [(0,vM aH nest),(1,vM rI p),(2,vI most),(7,vI x_.1),(9,vI x2.2),(10,vI x_.2)]) lS ?_))));rintro again5 ⟨x3,x4⟩ h;refine qs (vj h (fun x_=>cP [(0,vM aH nest),(1,vM rI p),(2,vI most),(7,vI x3),(9,vI x2.2),(10,vI x4),(35,vB x_)]) (fun j6 h=>bA h (fun c2 h=>bK hC (rF 4 c2) (fr 28 8) [(35,vB false)] (lE h)) fun c2 h=>bK hC (rT 4 c2) (fr 28 8) [(35,vD (x3≤most))] (lE h)) fun x7 h=>?_);refine aZ h (fun c3 h=>?_) fun c3 h=>?_
  ·refine qk (eG ?_);obtain⟨x8,hx8,x9,hx9,x10,hx10,h⟩:=yE h;exact rk hC [.z (.nat 20),oA (dY rI hx8),.z (.int 0),oI [],oI p,oA (dY rI hx9),.z (.b (true)),oI x8,oI [x4],oV (ih nest x9 (wr (most-x3)) hx10)] [7,38,39,40,41,42,43,44,45,46,47,48,49,50] [(7,vI (wr (x3+x10)))] [(20,some (ar 3 3 1 rI x9))] [(20,true)] (bG hC [10,36,37] [(10,vI (wr (x4+1)))] (lE h))
  obtain rfl:=so h;exact d4 (aE hC [6,51] [(6,vI x3)] zr)
theorem n5{n_a0}{most}{r}(h:iA n n_a0 most=some r):PQ G 134 [vI n_a0,vI most] (vB r):=by refine pq aQ Tryz.func134 rfl fun w X hC=>bC hC [4] (vj h (fun x_=>cP [(4,vB x_)]) (fun j1 h=>bA h (fun c1 h=>bK hC (rF 4 c1) (fr 4 10) [(4,vB false)] (lE h)) fun c1 h=>bK hC (rT 4 c1) (fr 4 10) [(4,vD (n_a0≤most))] (lE h)) fun x2 h=>?_);obtain rfl:=so h;exact zr
theorem dD{a}{r}(h:eB n a=some r):PQ G 154 [V.agg (cH a)] (vB r):=by
 refine pq aQ Tryz.func154 rfl fun w X hC=>aU hC [.z (.b (true))] [1,2] [(1,V.tp (bW a))] (qs (aE hC [3] [(3,vI 0)] (qb (gF h (fun x_=>cP [(1,V.tp (bW a)),(3,vI x_)]) lS ?_))));rintro again2 x1 h;refine qs (aU hC [oN rI a.coefs] (fr 4 5) [(8,vK x1 a.coefs)] (aZ h (fun c1 h=>?_) fun c1 h=>?_))
 ·refine qk (eG ?_);obtain⟨x3,hx3,x4,hx4,h⟩:=gG h;refine aU hC [oR rI hx3,oV (n5 G hx4)] (fr 11 7) [(17,vB (!x4))] (aZ h (fun c2 h=>?_) fun c2 h=>qk (bG hC [3,9,10] [(3,vI (wr (x1+1)))] (lE h)));obtain rfl:=so h;exact aE hC [2] [(2,vB false)] zr
 refine d4 (vj h (fun x_=>cP [(2,vB x_)]) (fun j5 h=>?_) fun x7 h=>?_)
 ·refine bA h (fun c3 h=>bK hC ([oN rI a.coefs]++rF 4 c3) [2,18,19,20,21,22,23,24,25,26] [(2,vB false)] (lE h)) fun c3 h=>?_;obtain⟨x6,hx6,h⟩:=bd h;exact bK hC ([oN rI a.coefs]++rT 3 c3++[oV (n5 G hx6),oT c3]) [2,18,19,20,21,22,23,24,25,26] [(2,vB x6)] (lE h)
 obtain rfl:=so h;exact zr
theorem pQ{a}{r}(h:kQ n a=some r):PQ G 155 [V.agg (cH a)] (vI r):=by
 refine pq aQ Tryz.func155 rfl fun w X hC=>aU hC [.z (.b (true))] [1,2] [(1,V.tp (bW a))] (aE hC [3] [(3,vI 0)] (qs (aE hC [4] [(4,vI 0)] (qb (gF h (fun x_=>cP [(1,V.tp (bW a)),(3,vI x_.1),(4,vI x_.2)]) lS ?_)))));rintro again3 ⟨x1,x2⟩ h;refine qs (aU hC [oN rI a.coefs] (fr 5 5) [(9,vK x2 a.coefs)] (aZ h (fun c1 h=>?_) fun c1 h=>?_))
 ·refine qk (vj h (fun x_=>cP [(1,V.tp (bW a)),(3,vI x_),(4,vI x2)]) (fun j4 h=>?_) fun x6 h=>bG hC [4,10,11] [(4,vI (wr (x2+1)))] (lE h));refine qb ?_;obtain⟨x5,hx5,h⟩:=bd h;exact aU hC [oR rI hx5] (fr 12 6) [(17,vB (!decide (x5=0)))] (aZ h (fun c2 h=>bG hC [3,18,19] [(3,vI (wr (x2+1)))] (lE h)) fun c2 h=>qk (lE h))
 obtain rfl:=so h;exact d4 (aE hC [2,20] [(2,vI x1)] zr)
theorem rZ{list}{depth}{r}(h:pD n list depth=some r):PQ G 149 [vM aA list,vI depth] (vB r):=by
 refine pq aQ Tryz.func149 rfl fun w X hC=>bC hC [4] (qs (aE hC [5] [(5,vI 0)] (qb (gF h (fun x_=>cP [(0,vM aA list),(1,vI depth),(5,vI x_)]) lS ?_))));rintro again2 x1 h;refine qs (aU hC [oN aA list] (fr 6 4) [(9,vK x1 list)] (aZ h (fun c1 h=>?_) fun c1 h=>?_))
 ·refine qk (eG (vj h (fun x_=>cP [(0,vM aA list),(1,vI depth),(5,vI x1),(26,vB x_)]) (fun j3 h=>?_) fun x7 h=>?_))
  ·obtain⟨x4,hx4,x5,hx5,h⟩:=gG h;refine bA h (fun c2 h=>?_) fun c2 h=>bK hC ([oR aA hx4,oV (dD G hx5)]++rT 8 c2) (fr 12 15) [(26,vB true)] (lE h);obtain⟨x6,hx6,h⟩:=bd h;exact bK hC ([oR aA hx4,oV (dD G hx5)]++rF 3 c2++[oR aA hx4,oF c2,oF c2,oV (pQ G hx6)]++rF 3 c2) (fr 12 15) [(26,vD (depth<x6))] (lE h)
  refine aZ h (fun c3 h=>?_) fun c3 h=>qk (bG hC [5,10,11] [(5,vI (wr (x1+1)))] (lE h));obtain rfl:=so h;exact aE hC [4] [(4,vB false)] zr
 refine d4 (vj h (fun x_=>cP [(4,vB x_)]) (fun j8 h=>?_) fun x9 h=>?_)
 ·exact bA h (fun c4 h=>bK hC ([oN aA list]++rF 4 c4) [4,27,28,29,30,31,32,33,34] [(4,vB false)] (lE h)) fun c4 h=>bK hC [oN aA list,oT c4,oT c4,oN aA list,oT c4,oT c4] [4,27,28,29,30,31,32,33,34] [(4,vD ((list.length:Int)≤2))] (lE h)
 obtain rfl:=so h;exact zr
theorem fY{nest}{r}(h:i8 n nest=some r):PQ G 124 [vM aH nest] (vB r):=by
 refine pq aQ Tryz.func124 rfl fun w X hC=>bC hC [2] (qs (aE hC [3] [(3,vI 0)] (qb (gF h (fun x_=>cP [(0,vM aH nest),(3,vI x_)]) lS ?_))));rintro again2 x1 h;refine qs (vj h (fun x_=>cP [(0,vM aH nest),(3,vI x1),(12,vB x_)]) (fun j3 h=>bA h (fun c1 h=>bK hC ([oN aH nest]++rF 4 c1) (fr 4 9) [(12,vB false)] (lE h)) fun c1 h=>bK hC [oN aH nest,oT c1,oT c1,oN aH nest,oT c1,oT c1] (fr 4 9) [(12,vD ((nest.length:Int)≤4))] (lE h)) fun x4 h=>?_);refine aZ h (fun c2 h=>?_) fun c2 h=>?_
 ·refine qk (eG (vj h (fun x_=>cP [(0,vM aH nest),(3,vI x1),(32,vB x_)]) (fun j5 h=>?_) fun x9 h=>?_))
  ·obtain⟨x6,hx6,x7,hx7,h⟩:=gG h;refine bA h (fun c3 h=>?_) fun c3 h=>bK hC ([oR aH hx6,oV (rZ G hx7)]++rT 9 c3) (fr 15 18) [(32,vB true)] (lE h);obtain⟨x8,hx8,h⟩:=bd h;exact bK hC ([oR aH hx6,oV (rZ G hx7)]++rF 3 c3++[oR aH hx6]++rF 4 c3++[oV (rZ G hx8),oF c3,oF c3]) (fr 15 18) [(32,vB (!x8))] (lE h)
  refine aZ h (fun c4 h=>?_) fun c4 h=>qk (bG hC [3,13,14] [(3,vI (wr (x1+1)))] (lE h));cases h;exact aE hC [2] [(2,vB false)] zr
 cases h;exact d4 (aU hC [oN aH nest] [2,33,34,35] [(2,vD ((nest.length:Int)≤4))] zr)
theorem C2{nest}{r}(h:jW n nest=some r):VQ G 97 [] [vM aH nest] (V.tup [ms 0 1 1 (rL rI) r.1,vB r.2]) [ar 40 1 1 (rL rI) r.1]:=by
 refine vq aQ Tryz.func97 rfl fun w X β0 hC hg=>bC hC [2,3] (qs (vj h (fun x_=>cP [(0,vM aH nest),(12,vB x_)]) (fun j1 h=>?_) fun x4 h=>?_))
 ·obtain⟨x2,hx2,h⟩:=bd h;refine bA h (fun c1 h=>?_) fun c1 h=>bK hC ([oV (fY G hx2)]++rT 4 c1) (fr 5 8) [(12,vB true)] (lE h);obtain⟨x3,hx3,h⟩:=bd h;exact bK hC [oV (fY G hx2),oF c1,oF c1,oV (aBo G n nest [] 1200 hx3),oF c1,oF c1] (fr 5 8) [(12,vD ((1200:Int)<x3))] (lE h)
 refine aZ h (fun c2 h=>?_) fun c2 h=>?_
 ·cases h;exact rq hC [.z (.nat 20)] [2,3,13] [(2,ms 20 1 1 (rL rI) []),(3,vB false)] [(20,some (ar 40 1 1 (rL rI) []))] [(20,true)] (xR hC 2 20 (ms 0 1 1 (rL rI) []) (ar 40 1 1 (rL rI) []))
 refine qk ?_;obtain⟨x5,hx5,h⟩:=bd h;refine rq hC [.z (.nat 20),oC [20] [] (R3 G n [] 1 nest [] hx5)] [4,14,15,16] [(4,ms 20 2 1 (rL rI) x5)] [(20,some (ar 40 2 1 (rL rI) x5))] [(20,true),(20,true)] (qs (aU hC [oN (rL rI) x5] [17,18,19] [(19,vD ((120:Int)<(x5.length:Int)))] (aZ h (fun c3 h=>?_) fun c3 h=>?_)))
 ·cases h;exact rq hC [.z (.nat 21)] [2,3,20] [(2,ms 21 1 1 (rL rI) []),(3,vB false)] [(21,some (ar 40 1 1 (rL rI) []))] [(21,true)] (xR hC 2 21 (ms 0 1 1 (rL rI) []) (ar 40 1 1 (rL rI) []))
 cases h;exact qk (aE hC [2,3,21] [(2,ms 20 2 1 (rL rI) x5),(3,vB true)] (xR hC 2 20 (ms 0 1 1 (rL rI) x5) (ar 40 1 1 (rL rI) x5)))
theorem n4{a}{depth}{r}(h:lG n a depth=some r):PQ G 130 [V.agg (eL a),vI depth] (vB r):=by
 refine pq aQ Tryz.func130 rfl fun w X hC=>aU hC [.z (.b (true))] [2,4] [(2,V.tp (cO a))] (qs (aE hC [5] [(5,vI 0)] (qb (gF h (fun x_=>cP [(1,vI depth),(2,V.tp (cO a)),(5,vI x_)]) lS ?_))));rintro again2 x1 h;refine qs (aU hC [oN aA a.subs] (fr 6 5) [(10,vK x1 a.subs)] (aZ h (fun c1 h=>?_) fun c1 h=>?_))
 ·refine qk (eG (vj h (fun x_=>cP [(1,vI depth),(2,V.tp (cO a)),(5,vI x1),(29,vB x_)]) (fun j3 h=>?_) fun x7 h=>?_))
  ·obtain⟨x4,hx4,x5,hx5,h⟩:=gG h;refine bA h (fun c2 h=>?_) fun c2 h=>bK hC ([oR aA hx4,oV (dD G hx5)]++rT 9 c2) (fr 13 17) [(29,vB true)] (lE h);obtain⟨x6,hx6,h⟩:=bd h;exact bK hC ([oR aA hx4,oV (dD G hx5)]++rF 4 c2++[oR aA hx4,oF c2,oF c2,oV (pQ G hx6)]++rF 3 c2) (fr 13 17) [(29,vD (depth<x6))] (lE h)
  refine aZ h (fun c3 h=>?_) fun c3 h=>qk (bG hC [5,11,12] [(5,vI (wr (x1+1)))] (lE h));obtain rfl:=so h;exact aE hC [4] [(4,vB false)] zr
 refine d4 (vj h (fun x_=>cP [(4,vB x_)]) (fun j8 h=>?_) fun x9 h=>?_)
 ·refine bA h (fun c4 h=>bK hC (rF 4 c4++sF 14) [4,30,31,32,33,34,35,36,37,38,39,40,41,42,43,44,45,46,47,48,49,50,51,52,53,54,55] [(4,vB false)] (lE h)) fun c4 h=>?_;refine bA h (fun c5 h=>bK hC (rT 4 c4++rF 4 c5++sF 10) [4,30,31,32,33,34,35,36,37,38,39,40,41,42,43,44,45,46,47,48,49,50,51,52,53,54,55] [(4,vB false)] (lE h)) fun c5 h=>?_;refine bA h (fun c6 h=>bK hC (rT 4 c4++rT 4 c5++rF 5 c6++sF 5) [4,30,31,32,33,34,35,36,37,38,39,40,41,42,43,44,45,46,47,48,49,50,51,52,53,54,55] [(4,vB false)] (lE h)) fun c6 h=>?_;refine bA h (fun c7 h=>bK hC (rT 4 c4++rT 4 c5++rT 3 c6++[oN aA a.subs,oT c6,oT c6]++rF 5 c7) [4,30,31,32,33,34,35,36,37,38,39,40,41,42,43,44,45,46,47,48,49,50,51,52,53,54,55] [(4,vB false)] (lE h)) fun c7 h=>?_;exact bK hC (rT 4 c4++rT 4 c5++rT 3 c6++[oN aA a.subs,oT c6,oT c6]++rT 3 c7++[oN aA a.subs,oT c7,oT c7]) [4,30,31,32,33,34,35,36,37,38,39,40,41,42,43,44,45,46,47,48,49,50,51,52,53,54,55] [(4,vD ((a.subs.length:Int)≤2))] (lE h)
 obtain rfl:=so h;exact zr
theorem C1{kind}{r}(h:sX n kind=some r):PQ G 156 [vI kind] (vI r):=by
 refine pq aQ Tryz.func156 rfl fun w X hC=>bC hC [2] (qs (aE hC [3] [(3,vI kind)] (qb (vj h (fun x_=>cP [(3,vI kind),(4,vB x_)]) (fun j1 h=>aE hC [4,5] [(4,vD (kind=1))] (aZ h (fun c1 h=>qk (lE h)) fun c1 h=>aE hC [4,6] [(4,vD (kind=2))] (aZ h (fun c2 h=>qk (lE h)) fun c2 h=>bG hC [4,7] [(4,vD (kind=3))] (lE h)))) fun x2 h=>?_))));refine aZ h (fun c3 h=>?_) fun c3 h=>?_
 ·cases h;exact aE hC [2] [(2,vI 0)] zr
 refine vj h (fun x_=>cP [(8,vB x_)]) (fun j3 h=>aE hC [8,9] [(8,vD (kind=4))] (aZ h (fun c4 h=>qk (lE h)) fun c4 h=>aE hC [8,10] [(8,vD (kind=5))] (aZ h (fun c5 h=>qk (lE h)) fun c5 h=>bG hC [8,11] [(8,vD (kind=6))] (lE h)))) fun x4 h=>?_;refine aZ h (fun c6 h=>?_) fun c6 h=>?_
 ·cases h;exact aE hC [2] [(2,vI 2)] zr
 cases h;exact qk (aE hC [2] [(2,vI (-1))] zr)
theorem jF{a}{r}(h:kO n a=some r):PQ G 177 [V.agg (eL a)] (vB r):=by refine pq aQ Tryz.func177 rfl fun w X hC=>aU hC [.z (.b (true))] [1,2] [(1,V.tp (cO a))] (vj h (fun x_=>cP [(2,vB x_)]) (fun j1 h=>bA h (fun c1 h=>bK hC (rF 5 c1) (fr 2 10) [(2,vB false)] (lE h)) fun c1 h=>bK hC (rT 3 c1++[oN aA a.subs,oT c1,oT c1]) (fr 2 10) [(2,vD ((a.subs.length:Int)=0))] (lE h)) fun x2 h=>?_);obtain rfl:=so h;exact zr
theorem iG{a}{r}(h:mV n a=some r):PQ G 178 [V.agg (cH a)] (vB r):=by refine pq aQ Tryz.func178 rfl fun w X hC=>aU hC [.z (.b (true))] [1,2] [(1,V.tp (bW a))] (vj h (fun x_=>cP [(2,vB x_)]) (fun j1 h=>bA h (fun c1 h=>bK hC ([oN rI a.coefs]++rF 4 c1) (fr 2 10) [(2,vB false)] (lE h)) fun c1 h=>bK hC ([oN rI a.coefs]++rT 4 c1) (fr 2 10) [(2,vD (a.const=0))] (lE h)) fun x2 h=>?_);obtain rfl:=so h;exact zr
theorem aCU{e}{depth}{r}(h:xT n e depth=some r):PQ G 157 [V.agg (jG e),vI depth] (vB r):=by
 refine pq aQ Tryz.func157 rfl fun w X hC=>aU hC [.z (.b (true))] [2,4] [(2,V.tp (fN e))] (qs (aE hC [5,6,7] [(7,vD (e.kind=2))] (aZ h (fun c1 h=>?_) fun c1 h=>?_)))
 ·refine vj h (fun x_=>cP [(4,vB x_)]) (fun j1 h=>?_) fun x5 h=>?_
  ·refine bA h (fun c2 h=>bK hC (rF 4 c2++sF 10) [4,8,9,10,11,12,13,14,15,16,17,18,19,20,21,22,23,24,25,26,27] [(4,vB false)] (lE h)) fun c2 h=>?_;obtain⟨x2,hx2,h⟩:=bd h;refine bA h (fun c3 h=>bK hC (rT 3 c2++[oV (jF G hx2),oT c2]++rF 4 c3++sF 6) [4,8,9,10,11,12,13,14,15,16,17,18,19,20,21,22,23,24,25,26,27] [(4,vB false)] (lE h)) fun c3 h=>?_;obtain⟨x3,hx3,h⟩:=bd h;refine bA h (fun c4 h=>bK hC (rT 3 c2++[oV (jF G hx2),oT c2]++rT 3 c3++[oV (dD G hx3),oT c3]++rF 6 c4) [4,8,9,10,11,12,13,14,15,16,17,18,19,20,21,22,23,24,25,26,27] [(4,vB false)] (lE h)) fun c4 h=>?_;obtain⟨x4,hx4,h⟩:=bd h;exact bK hC (rT 3 c2++[oV (jF G hx2),oT c2]++rT 3 c3++[oV (dD G hx3),oT c3]++rT 3 c4++[oV (pQ G hx4)]++rT 3 c4) [4,8,9,10,11,12,13,14,15,16,17,18,19,20,21,22,23,24,25,26,27] [(4,vD (x4≤depth))] (lE h)
  obtain rfl:=so h;exact zr
 refine qk (qs (aE hC [28,29,30] [(30,vD (e.kind=3))] (aZ h (fun c5 h=>?_) fun c5 h=>?_)))
 ·refine vj h (fun x_=>cP [(4,vB x_)]) (fun j6 h=>?_) fun x9 h=>?_
  ·refine bA h (fun c6 h=>bK hC (rF 4 c6++sF 5) [4,31,32,33,34,35,36,37,38,39,40,41,42,43,44] [(4,vB false)] (lE h)) fun c6 h=>?_;obtain⟨x7,hx7,h⟩:=bd h;refine bA h (fun c7 h=>bK hC (rT 3 c6++[oV (iG G hx7),oT c6]++rF 5 c7) [4,31,32,33,34,35,36,37,38,39,40,41,42,43,44] [(4,vB false)] (lE h)) fun c7 h=>?_;obtain⟨x8,hx8,h⟩:=bd h;exact bK hC (rT 3 c6++[oV (iG G hx7),oT c6]++rT 4 c7++[oV (n4 G hx8),oT c7]) [4,31,32,33,34,35,36,37,38,39,40,41,42,43,44] [(4,vB x8)] (lE h)
  obtain rfl:=so h;exact zr
 refine qk (qs (aE hC [45,46,47] [(47,vD (e.kind=1))] (aZ h (fun c8 h=>?_) fun c8 h=>?_)))
 ·refine vj h (fun x_=>cP [(4,vB x_)]) (fun j10 h=>?_) fun x13 h=>?_
  ·refine bA h (fun c9 h=>bK hC (rF 4 c9++sF 8) [4,48,49,50,51,52,53,54,55,56,57,58,59,60,61,62,63,64,65] [(4,vB false)] (lE h)) fun c9 h=>?_;refine bA h (fun c10 h=>bK hC (rT 4 c9++rF 4 c10++sF 4) [4,48,49,50,51,52,53,54,55,56,57,58,59,60,61,62,63,64,65] [(4,vB false)] (lE h)) fun c10 h=>?_;obtain⟨x11,hx11,h⟩:=bd h;refine bA h (fun c11 h=>bK hC (rT 4 c9++rT 3 c10++[oV (iG G hx11),oT c10]++rF 4 c11) [4,48,49,50,51,52,53,54,55,56,57,58,59,60,61,62,63,64,65] [(4,vB false)] (lE h)) fun c11 h=>?_;obtain⟨x12,hx12,h⟩:=bd h;exact bK hC (rT 4 c9++rT 3 c10++[oV (iG G hx11),oT c10]++rT 3 c11++[oV (jF G hx12),oT c11]) [4,48,49,50,51,52,53,54,55,56,57,58,59,60,61,62,63,64,65] [(4,vB x12)] (lE h)
  obtain rfl:=so h;exact zr
 refine qk (vj h (fun x_=>cP [(4,vB x_)]) (fun j14 h=>?_) fun x17 h=>?_)
 ·refine bA h (fun c12 h=>bK hC (rF 4 c12++sF 4) [4,66,67,68,69,70,71,72,73,74,75,76,77,78] [(4,vB false)] (lE h)) fun c12 h=>?_;obtain⟨x15,hx15,h⟩:=bd h;refine bA h (fun c13 h=>bK hC (rT 3 c12++[oV (iG G hx15),oT c12]++rF 4 c13) [4,66,67,68,69,70,71,72,73,74,75,76,77,78] [(4,vB false)] (lE h)) fun c13 h=>?_;obtain⟨x16,hx16,h⟩:=bd h;exact bK hC (rT 3 c12++[oV (iG G hx15),oT c12]++rT 3 c13++[oV (jF G hx16),oT c13]) [4,66,67,68,69,70,71,72,73,74,75,76,77,78] [(4,vB x16)] (lE h)
 obtain rfl:=so h;exact zr
theorem Y6(G:GS): ∀(n:Nat) (e:Expr) (depth:Int) (levels:Int) {r:Bool} (h:s_l3Shape n e depth levels=some r),PQ G 131 [V.agg (jG e),vI depth,vI levels] (vB r):=by
 intro n;induction n with
 |zero=>intro e depth levels r h;rw [s_l3Shape.eq_def] at h;cases h
 |succ n ih=>
  intro e depth levels r h;rw [s_l3Shape.eq_def] at h;dsimp only at h;refine pq aQ Tryz.func131 rfl fun w X hC=>aU hC [.z (.b (true))] [3,6] [(3,V.tp (fN e))] (qs (vj h (fun x_=>cP [(1,vI depth),(2,vI levels),(3,V.tp (fN e)),(24,vB x_)]) (fun j1 h=>?_) fun x4 h=>?_))
  ·refine bA h (fun c1 h=>?_) fun c1 h=>nE hC cG (rT 8 c1++sT 5) (fr 8 17) [(24,vB true)] (lE h);obtain⟨x2,hx2,h⟩:=bd h;refine bA h (fun c2 h=>?_) fun c2 h=>nE hC cG (rF 3 c1++[oV (C1 G hx2)]++rF 3 c1++[oN aC e.kids,oF c1,oF c1]++rT 5 c2) (fr 8 17) [(24,vB true)] (lE h);obtain⟨x3,hx3,h⟩:=bd h;exact nE hC cG (rF 3 c1++[oV (C1 G hx2)]++rF 3 c1++[oN aC e.kids,oF c1,oF c1]++rF 3 c2++[oV (aCU G hx3),oF c2,oF c2]) (fr 8 17) [(24,vB (!x3))] (lE h)
  refine aZ h (fun c3 h=>?_) fun c3 h=>?_
  ·cases h;exact aE hC [6] [(6,vB false)] zr
  refine qk (qs (aE hC [7] [(7,vI 0)] (qb (gF h (fun x_=>cP [(1,vI depth),(2,vI levels),(3,V.tp (fN e)),(7,vI x_)]) lS ?_))));rintro again6 x5 h;refine qs (aU hC [oN aC e.kids] (fr 25 5) [(29,vK x5 e.kids)] (aZ h (fun c4 h=>?_) fun c4 h=>?_))
  ·refine qk (eG ?_);obtain⟨x7,hx7,x8,hx8,h⟩:=gG h;refine aU hC [.z (.row (bI x7)),oQ (dV aC hx7 (aL x7)),oV (ih x7 depth (wr (levels-1)) hx8)] (fr 32 10) [(41,vB (!x8))] (aZ h (fun c5 h=>?_) fun c5 h=>qk (bG hC [7,30,31] [(7,vI (wr (x5+1)))] (lE h)));cases h;exact aE hC [6] [(6,vB false)] zr
  cases h;exact d4 (aE hC [6] [(6,vB true)] zr)
theorem Y8(G:GS): ∀(n:Nat) (e:Expr) (levels:Int) {r:Int} (h:s_l3Count n e levels=some r),PQ G 132 [V.agg (jG e),vI levels] (vI r):=by
 intro n;induction n with
 |zero=>intro e levels r h;rw [s_l3Count.eq_def] at h;cases h
 |succ n ih=>
  intro e levels r h;rw [s_l3Count.eq_def] at h;dsimp only at h;refine pq aQ Tryz.func132 rfl fun w X hC=>aU hC [.z (.b (true))] [2,4] [(2,V.tp (fN e))] (aE hC [5] [(5,vI 1)] (qs (aE hC [6] [(6,vI 0)] (qb (gF h (fun x_=>cP [(1,vI levels),(2,V.tp (fN e)),(5,vI x_.1),(6,vI x_.2)]) lS ?_)))));rintro again3 ⟨x1,x2⟩ h;refine qs (vj h (fun x_=>cP [(1,vI levels),(2,V.tp (fN e)),(5,vI x1),(6,vI x2),(15,vB x_)]) (fun j4 h=>bA h (fun c1 h=>bK hC ([oN aC e.kids]++rF 3 c1) (fr 7 9) [(15,vB false)] (lE h)) fun c1 h=>bK hC ([oN aC e.kids]++rT 3 c1) (fr 7 9) [(15,vD ((0:Int)<levels))] (lE h)) fun x5 h=>?_);refine aZ h (fun c2 h=>?_) fun c2 h=>?_
  ·refine qk (eG ?_);obtain⟨x6,hx6,x7,hx7,h⟩:=gG h;exact bK hC [.z (.row (bI x6)),oQ (dV aC hx6 (aL x6)),oV (ih x6 (wr (levels-1)) hx7)] [5,18,19,20,21,22,23,24,25,26,27] [(5,vI (wr (x1+x7)))] (bG hC [6,16,17] [(6,vI (wr (x2+1)))] (lE h))
  obtain rfl:=so h;exact d4 (aE hC [4,28] [(4,vI x1)] zr)
theorem G6{s}{depth}{r}(h:l8 n s depth=some r):PQ G 98 [V.agg (jP s),vI depth] (vB r):=by
 refine pq aQ Tryz.func98 rfl fun w X hC=>aU hC [.z (.b (true))] [2,4] [(2,V.tp (oD s))] (qs (vj h (fun x_=>cP [(2,V.tp (oD s)),(24,vB x_)]) (fun j1 h=>?_) fun x4 h=>?_))
 ·refine bA h (fun c1 h=>?_) fun c1 h=>bK hC (rT 3 c1++sT 12) (fr 5 20) [(24,vB true)] (lE h);refine bA h (fun c2 h=>?_) fun c2 h=>bK hC (rF 3 c1++rT 6 c2++sT 6) (fr 5 20) [(24,vB true)] (lE h);obtain⟨x2,hx2,h⟩:=bd h;refine bA h (fun c3 h=>?_) fun c3 h=>bK hC (rF 3 c1++rF 4 c2++[oV (n4 G hx2),oF c2,oF c2]++rT 6 c3) (fr 5 20) [(24,vB true)] (lE h);obtain⟨x3,hx3,h⟩:=bd h;exact bK hC (rF 3 c1++rF 4 c2++[oV (n4 G hx2),oF c2,oF c2]++rF 4 c3++[oV (Y6 G n s.value depth 5 hx3),oF c3,oF c3]) (fr 5 20) [(24,vB (!x3))] (lE h)
 refine aZ h (fun c4 h=>?_) fun c4 h=>?_
 ·cases h;exact aE hC [4] [(4,vB false)] zr
 refine qk ?_;obtain⟨x5,hx5,h⟩:=bd h;cases h;exact aU hC [oV (Y8 G n s.value 5 hx5)] [4,25,26,27,28] [(4,vD (x5≤12))] zr
theorem C0{a}{r}(h:pC n a=some r):PQ G 116 [V.agg [vS a.name,vM rI a.dims]] (vI r):=by
 refine pq aQ Tryz.func116 rfl fun w X hC=>aU hC [.z (.b (true))] [1,2] [(1,V.tp [T.str a.name,T.sl (List.map rI a.dims)])] (aE hC [3] [(3,vI 1)] (qs (aE hC [4] [(4,vI 0)] (qb (gF h (fun x_=>cP [(1,V.tp [T.str a.name,T.sl (List.map rI a.dims)]),(3,vI x_.1),(4,vI x_.2)]) lS ?_)))));rintro again3 ⟨x1,x2⟩ h;refine qs (aU hC [oN rI a.dims] (fr 5 5) [(9,vK x2 a.dims)] (aZ h (fun c1 h=>?_) fun c1 h=>?_))
 ·refine qk (eG ?_);obtain⟨x4,hx4,h⟩:=bd h;exact bK hC [oR rI hx4] [3,12,13,14,15,16,17,18] [(3,vI (wr (x1*x4)))] (bG hC [4,10,11] [(4,vI (wr (x2+1)))] (lE h))
 obtain rfl:=so h;exact d4 (aE hC [2,19] [(2,vI x1)] zr)
theorem n1{list}{a}{point}{r}(h:lF n list a point=some r):PQ G 83 [vM aN list,V.agg (eL a),vM rI point] (vI r):=by
 refine pq aQ Tryz.func83 rfl fun w X hC=>aU hC [.z (.b (true))] [4,6] [(4,V.tp (cO a))] (aE hC [7] [(7,vI 0)] (qs (aE hC [8] [(8,vI 0)] (qb (gF h (fun x_=>cP [(0,vM aN list),(2,vM rI point),(4,V.tp (cO a)),(7,vI x_.1),(8,vI x_.2)]) lS ?_)))));rintro again3 ⟨x1,x2⟩ h;refine qs (aU hC [oN aN list] (fr 12 4) [(15,vK x2 list)] (aZ h (fun c1 h=>?_) fun c1 h=>?_))
 ·refine qk (eG (qs (qs ?_)));obtain⟨x4,hx4,h⟩:=bd h;refine nE hC cG [oR aN hx4] (fr 18 8) [(25,vB (!decide (x4.name=a.array)))] (aZ h (fun c2 h=>?_) fun c2 h=>?_)
  ·obtain⟨x5,hx5,h⟩:=bd h;exact aU hC [oR aN hx4,oV (C0 G hx5)] [7,26,27,28,29,30,31,32] [(7,vI (wr (x1+x5)))] (d4 (bG hC [8,16,17] [(8,vI (wr (x2+1)))] (lE h)))
  refine qk (aE hC [9] [(9,vI 0)] (qs (aE hC [10] [(10,vI 0)] (qb (gF h (fun x_=>cP [(0,vM aN list),(2,vM rI point),(4,V.tp (cO a)),(7,vI x1),(8,vI x2),(9,vI x_.1),(10,vI x_.2)]) lS ?_)))));rintro again8 ⟨x6,x7⟩ h;refine qs (aU hC [oN aA a.subs] (fr 33 5) [(37,vK x7 a.subs)] (aZ h (fun c3 h=>?_) fun c3 h=>?_))
  ·refine qk (eG (qs (qs (nE hC cG [oN aA a.subs,oR aN hx4,oN rI x4.dims] (fr 40 10) [(49,vB (!decide ((a.subs.length:Int)=(x4.dims.length:Int))))] ?_))));refine aZ h (fun c4 h=>?_) fun c4 h=>?_
   ·cases h;exact aE hC [6] [(6,vI (-1))] zr
   refine qk ?_;obtain⟨x9,hx9,x10,hx10,h⟩:=gG h;refine aU hC [oR aA hx9,oV (iH G hx10)] [11,50,51,52,53,54,55,56] [(11,vI x10)] (qs (vj h (fun x_=>cP [(0,vM aN list),(2,vM rI point),(4,V.tp (cO a)),(7,vI x1),(8,vI x2),(9,vI x6),(10,vI x7),(11,vI x10),(70,vB x_)]) (fun j11 h=>?_) fun x13 h=>?_))
   ·refine bA h (fun c5 h=>?_) fun c5 h=>bK hC (rT 11 c5) (fr 57 14) [(70,vB true)] (lE h);obtain⟨x12,hx12,h⟩:=bd h;exact bK hC (rF 4 c5++[oR aN hx4]++rF 4 c5++[oR rI hx12]++rF 3 c5) (fr 57 14) [(70,vD (x12≤x10))] (lE h)
   refine aZ h (fun c6 h=>?_) fun c6 h=>?_
   ·cases h;exact aE hC [6] [(6,vI (-1))] zr
   refine qk ?_;obtain⟨x14,hx14,h⟩:=bd h;exact bK hC [oR aN hx4,oR rI hx14] [9,71,72,73,74,75,76,77,78,79,80,81,82] [(9,vI (wr ((wr (x6*x14))+x10)))] (bG hC [10,38,39] [(10,vI (wr (x7+1)))] (lE h))
  cases h;exact d4 (aE hC [6,83,84,85] [(6,vI (wr (x1+x6)))] zr)
 cases h;exact d4 (aE hC [6] [(6,vI (-1))] zr)
theorem wL{a}{r}(h:gJ n a=some r):VQ G 179 [] [V.agg (cH a)] (V.agg [ms 0 1 1 rI r.coefs,vI r.const]) [ar 3 1 1 rI r.coefs]:=by
 refine vq aQ Tryz.func179 rfl fun w X β0 hC hg=>rq hC [.z (.b (true)),.z (.nat 20)] [1,2] [(1,V.tp (bW a)),(2,V.ref 20 0)] [(20,sc [eP,vI 0])] [(20,true)] (qs (aU hC [oN rI a.coefs] (fr 3 4) [(6,vD ((a.coefs.length:Int)=0))] (aZ h (fun c1 h=>?_) fun c1 h=>?_)))
 ·cases h;exact mY hC [7,8,9] [(20,sc [eP,vI a.const])] [] (qw (lk hC [.growc 20 0 21 3] [] [] [(21,some (ar 3 1 1 rI [])),(20,sc [ms 21 1 1 rI [],vI a.const])] [(21,true)]) (qw (lk hC [.rn 21 0 [] [20]] [] [] [(20,sc [ms 0 1 1 rI [],vI a.const]),(21,none),(0,some (ar 3 1 1 rI []))] [(0,true)]) zw))
 refine qk (qs ?_);obtain⟨x1,hx1,h⟩:=bd h;cases h;exact dkt hC cG [.z (.nat 21),oA (dY rI hx1),oI [],oI a.coefs] (fr 10 7) [(21,some (ar 3 2 1 rI x1)),(20,sc [ms 21 2 1 rI x1,vI a.const])] [(21,true)] (qw (lk hC [.rn 21 0 [] [20]] [] [] [(20,sc [ms 0 1 1 rI x1,vI a.const]),(21,none),(0,some (ar 3 1 1 rI x1))] [(0,true)]) zw)
theorem wM{a}{r}(h:gK n a=some r):VQ G 158 [] [V.agg (eL a)] (V.agg [vS r.array,ms 0 1 2 aA r.subs]) [ar 121 1 2 aA r.subs]:=by
 refine vq aQ Tryz.func158 rfl fun w X β0 hC hg=>rq hC [.z (.b (true)),.z (.nat 20)] [1,2] [(1,V.tp (cO a)),(2,V.ref 20 0)] [(20,sc [vS [],eP])] [(20,true)] (rq hC [.z (.nat 21)] [3,5,6,7] [(3,V.ref 21 0)] [(21,sc [vS a.array,eP])] [(21,true)] (qs (aE hC [4] [(4,vI 0)] (qb (qw (lk hC [.growc 21 1 22 121] [] [] [(22,some (ar 121 1 2 aA [])),(21,sc [vS a.array,ms 22 1 2 aA []])] [(22,true)]) ?_)))));refine vlN h (fun x_ g_=>iE [(1,V.tp (cO a)),(2,V.ref 20 0),(3,V.ref 21 0),(4,vI x_.2)] [(20,E.cells [vS [],eP]),(21,E.cells [vS a.array,ms 22 g_ 2 aA x_.1]),(22,ar 121 g_ 2 aA x_.1)] [20,21,22]) 1 (lS) ?_;rintro again4 ⟨x1,x2⟩ g3 h;refine qs (aU hC [oN aA a.subs] (fr 8 5) [(12,vK x2 a.subs)] (aZ h (fun c1 h=>?_) fun c1 h=>?_))
 ·refine qk (eG ?_);obtain⟨x5,hx5,x6,hx6,x7,hx7,h⟩:=yE h;exact dkt hC cG [oR aA hx5,oC [] [23] (wL G hx6),.z (.at 4),.z (.fz 23 [22] []),.z (.int 0),oA (dY aA hx7),oM 2 wX x1,oM 2 wX [x6]] (fr 15 11) [(23,none),(22,some (ar 121 (g3+1) 2 aA x7)),(21,sc [vS a.array,ms 22 (g3+1) 2 aA x7])] [(23,true)] (bG hC [4,13,14] [(4,vI (wr (x2+1)))] ⟨(x7,wr (x2+1)),(g3+1),h,lS⟩)
 cases h;exact d4 (mY hC [26] [(20,sc [vS a.array,ms 22 g3 2 aA x1])] [] (qw (lk hC [.rn 22 0 [] [20,21]] [] [] [(20,sc [vS a.array,ms 0 1 2 aA x1]),(21,sc [vS a.array,ms 0 1 2 aA x1]),(22,none),(0,some (ar 121 1 2 aA x1))] [(0,true)]) zw))
end Go.Lift
