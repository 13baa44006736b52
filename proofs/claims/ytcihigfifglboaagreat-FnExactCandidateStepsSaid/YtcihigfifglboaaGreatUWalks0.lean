/- The walks: the code computes what the plain functions say. -/
import Derived.Test.YtcihigfifglboaaGreatUModels
import Derived.Test.YtcihigfifglboaaGreatUTab
import Derived.Test.YtcihigfifglboaaGreatUCells
set_option maxRecDepth 10000
set_option linter.unusedVariables false
namespace Go.Lift
open Go Go.Proofs
variable (G:GS) {n:Nat}
theorem yP{a}{left}{r}(h:qW n a left=some r):PQ G 110 [vM rI a,vI left] (vI r):=by
 refine pq aU Tryz.func110 rfl fun w X hC=>bB hC [4] (aV hC [oN rI a] [1,5,6,7,8] [(1,vI (wr (left-(a.length:Int))))] (qs (aE hC [9,10] [(10,vD (wr (left-(a.length:Int))<0))] (aY h (fun c1 h=>?_) fun c1 h=>?_))))
 ·cases h;exact aE hC [4] [(4,vI (-1))] zr
 cases h;exact qk (aE hC [4,11] [(4,vI (wr (left-(a.length:Int))))] zr)
theorem S1{a}{left}{r}(h:s9 n a left=some r):PQ G 74 [V.agg [vS a.name,vM rI a.dims],vI left] (vI r):=by
 refine pq aU Tryz.func74 rfl fun w X hC=>aV hC [.z (.b (true))] [2,4] [(2,V.tp [T.str a.name,T.sl (List.map rI a.dims)])] (aE hC [1,5,6,7,8,9] [(1,vI (wr (left-(a.name.length:Int))))] (qs (aE hC [10,11] [(11,vD (wr (left-(a.name.length:Int))<0))] (aY h (fun c1 h=>?_) fun c1 h=>?_))))
 ·obtain rfl:=so h;exact aE hC [4] [(4,vI (-1))] zr
 refine qk ?_;obtain⟨x1,hx1,h⟩:=bd h;refine aV hC [oV (yP G hx1)] [1,12,13,14,15] [(1,vI x1)] (qs (aE hC [16,17] [(17,vD (x1<0))] (aY h (fun c2 h=>?_) fun c2 h=>?_)))
 ·obtain rfl:=so h;exact aE hC [4] [(4,vI (-1))] zr
 obtain rfl:=so h;exact qk (aE hC [4,18] [(4,vI x1)] zr)
theorem L5{a}{left}{r}(h:pV n a left=some r):PQ G 30 [vM aQ a,vI left] (vI r):=by
 refine pq aU Tryz.func30 rfl fun w X hC=>bB hC [4] (aV hC [oN aQ a] [1,6,7,8,9] [(1,vI (wr (left-(a.length:Int))))] (qs (aE hC [10,11] [(11,vD (wr (left-(a.length:Int))<0))] (aY h (fun c1 h=>?_) fun c1 h=>?_))))
 ·obtain rfl:=so h;exact aE hC [4] [(4,vI (-1))] zr
 refine qk (qs (aE hC [5] [(5,vI 0)] (qb (gK h (fun x_=>dO [(0,vM aQ a),(1,vI x_.1),(5,vI x_.2)]) lS ?_))));rintro again3 ⟨x1,x2⟩ h;refine qs (aV hC [oN aQ a] (fr 12 4) [(15,vK x2 a)] (aY h (fun c2 h=>?_) fun c2 h=>?_))
 ·refine qk (dU ?_);obtain⟨x4,hx4,x5,hx5,h⟩:=iT h;refine aV hC [oR aQ hx4,oV (S1 G hx5)] [1,18,19,20,21,22,23] [(1,vI x5)] (aE hC [24,25] [(25,vD (x5<0))] (aY h (fun c3 h=>?_) fun c3 h=>qk (bA hC [5,16,17] [(5,vI (wr (x2+1)))] (lE h))));obtain rfl:=so h;exact aE hC [4] [(4,vI (-1))] zr
 obtain rfl:=so h;exact dN (aE hC [4,26] [(4,vI x1)] zr)
theorem sC{a}{left}{r}(h:mJ n a left=some r):PQ G 211 [V.agg (cG a),vI left] (vI r):=by
 refine pq aU Tryz.func211 rfl fun w X hC=>aV hC [.z (.b (true))] [2,4] [(2,V.tp (bS a))] ?_;obtain⟨x1,hx1,h⟩:=bd h;refine aV hC [oV (yP G hx1)] [1,5,6,7,8] [(1,vI x1)] (qs (aE hC [9,10] [(10,vD (x1<0))] (aY h (fun c1 h=>?_) fun c1 h=>?_)))
 ·obtain rfl:=so h;exact aE hC [4] [(4,vI (-1))] zr
 obtain rfl:=so h;exact qk (aE hC [4,11] [(4,vI x1)] zr)
theorem lQ{a}{left}{r}(h:iG n a left=some r):PQ G 181 [vM aA a,vI left] (vI r):=by
 refine pq aU Tryz.func181 rfl fun w X hC=>bB hC [4] (aV hC [oN aA a] [1,6,7,8,9] [(1,vI (wr (left-(a.length:Int))))] (qs (aE hC [10,11] [(11,vD (wr (left-(a.length:Int))<0))] (aY h (fun c1 h=>?_) fun c1 h=>?_))))
 ·obtain rfl:=so h;exact aE hC [4] [(4,vI (-1))] zr
 refine qk (qs (aE hC [5] [(5,vI 0)] (qb (gK h (fun x_=>dO [(0,vM aA a),(1,vI x_.1),(5,vI x_.2)]) lS ?_))));rintro again3 ⟨x1,x2⟩ h;refine qs (aV hC [oN aA a] (fr 12 4) [(15,vK x2 a)] (aY h (fun c2 h=>?_) fun c2 h=>?_))
 ·refine qk (dU ?_);obtain⟨x4,hx4,x5,hx5,h⟩:=iT h;refine aV hC [oR aA hx4,oV (sC G hx5)] [1,18,19,20,21,22,23] [(1,vI x5)] (aE hC [24,25] [(25,vD (x5<0))] (aY h (fun c3 h=>?_) fun c3 h=>qk (bA hC [5,16,17] [(5,vI (wr (x2+1)))] (lE h))));obtain rfl:=so h;exact aE hC [4] [(4,vI (-1))] zr
 obtain rfl:=so h;exact dN (aE hC [4,26] [(4,vI x1)] zr)
theorem sD{a}{left}{r}(h:mK n a left=some r):PQ G 182 [V.agg (eE a),vI left] (vI r):=by
 refine pq aU Tryz.func182 rfl fun w X hC=>aV hC [.z (.b (true))] [2,4] [(2,V.tp (cM a))] (aE hC [1,5,6,7,8,9] [(1,vI (wr (left-(a.array.length:Int))))] (qs (aE hC [10,11] [(11,vD (wr (left-(a.array.length:Int))<0))] (aY h (fun c1 h=>?_) fun c1 h=>?_))))
 ·obtain rfl:=so h;exact aE hC [4] [(4,vI (-1))] zr
 refine qk ?_;obtain⟨x1,hx1,h⟩:=bd h;refine aV hC [oV (lQ G hx1)] [1,12,13,14,15] [(1,vI x1)] (qs (aE hC [16,17] [(17,vD (x1<0))] (aY h (fun c2 h=>?_) fun c2 h=>?_)))
 ·obtain rfl:=so h;exact aE hC [4] [(4,vI (-1))] zr
 obtain rfl:=so h;exact qk (aE hC [4,18] [(4,vI x1)] zr)
theorem S0(G:GS)(n:Nat)(self:Expr→Int→Option Int)(hself: ∀(q0:Expr) (q1:Int) {r:Int},self q0 q1=some r→PQ G 183 [V.agg (kM q0),vI q1] (vI r))(a:List Expr)(left:Int){r:Int}(h:s8 n self a left=some r):PQ G 212 [vM aC a,vI left] (vI r):=by
 refine pq aU Tryz.func212 rfl fun w X hC=>bB hC [4] (aV hC [oN aC a] [1,6,7,8,9] [(1,vI (wr (left-(a.length:Int))))] (qs (aE hC [10,11] [(11,vD (wr (left-(a.length:Int))<0))] (aY h (fun c1 h=>?_) fun c1 h=>?_))))
 ·obtain rfl:=so h;exact aE hC [4] [(4,vI (-1))] zr
 refine qk (qs (aE hC [5] [(5,vI 0)] (qb (gK h (fun x_=>dO [(0,vM aC a),(1,vI x_.1),(5,vI x_.2)]) lS ?_))));rintro again3 ⟨x1,x2⟩ h;refine qs (aV hC [oN aC a] (fr 12 4) [(15,vK x2 a)] (aY h (fun c2 h=>?_) fun c2 h=>?_))
 ·refine qk (dU ?_);obtain⟨x4,hx4,x5,hx5,h⟩:=iT h;refine aV hC [.z (.row (bK x4)),oQ (gD aC hx4 (aO x4)),oV (hself x4 x1 hx5)] [1,18,19,20,21,22,23] [(1,vI x5)] (aE hC [24,25] [(25,vD (x5<0))] (aY h (fun c3 h=>?_) fun c3 h=>qk (bA hC [5,16,17] [(5,vI (wr (x2+1)))] (lE h))));obtain rfl:=so h;exact aE hC [4] [(4,vI (-1))] zr
 obtain rfl:=so h;exact dN (aE hC [4,26] [(4,vI x1)] zr)
theorem aAi(G:GS): ∀(n:Nat) (a:Expr) (left:Int) {r:Int} (h:w_szExpr n a left=some r),PQ G 183 [V.agg (kM a),vI left] (vI r):=by
 intro n;induction n with
 |zero=>intro a left r h;rw [w_szExpr.eq_def] at h;cases h
 |succ n ih=>
  intro a left r h;rw [w_szExpr.eq_def] at h;dsimp only at h;refine pq aU Tryz.func183 rfl fun w X hC=>aV hC [.z (.b (true))] [2,4] [(2,V.tp (fW a))] ?_;obtain⟨x1,hx1,h⟩:=bd h;refine aV hC [oV (sC G hx1)] [1,5,6,7,8] [(1,vI x1)] (qs (aE hC [9,10] [(10,vD (x1<0))] (aY h (fun c1 h=>?_) fun c1 h=>?_)))
  ·obtain rfl:=so h;exact aE hC [4] [(4,vI (-1))] zr
  refine qk ?_;obtain⟨x2,hx2,h⟩:=bd h;refine aV hC [oV (sD G hx2)] [1,11,12,13,14] [(1,vI x2)] (qs (aE hC [15,16] [(16,vD (x2<0))] (aY h (fun c2 h=>?_) fun c2 h=>?_)))
  ·obtain rfl:=so h;exact aE hC [4] [(4,vI (-1))] zr
  refine qk ?_;obtain⟨x3,hx3,h⟩:=bd h;refine aV hC [oV (S0 G n (w_szExpr n) (fun q0 q1 r h=>ih q0 q1 h) a.kids x2 hx3)] [1,17,18,19,20] [(1,vI x3)] (qs (aE hC [21,22] [(22,vD (x3<0))] (aY h (fun c3 h=>?_) fun c3 h=>?_)))
  ·obtain rfl:=so h;exact aE hC [4] [(4,vI (-1))] zr
  obtain rfl:=so h;exact qk (aE hC [4,23] [(4,vI x3)] zr)
theorem aAf{a}{left}{r}(h:wL n a left=some r):PQ G 150 [V.agg (nI a),vI left] (vI r):=by
 refine pq aU Tryz.func150 rfl fun w X hC=>aV hC [.z (.b (true))] [2,4] [(2,V.tp (nD a))] ?_;obtain⟨x1,hx1,h⟩:=bd h;refine aV hC [oV (sD G hx1)] [1,5,6,7,8] [(1,vI x1)] (qs (aE hC [9,10] [(10,vD (x1<0))] (aY h (fun c1 h=>?_) fun c1 h=>?_)))
 ·obtain rfl:=so h;exact aE hC [4] [(4,vI (-1))] zr
 refine qk ?_;obtain⟨x2,hx2,h⟩:=bd h;refine aV hC [oV (aAi G n a.value x1 hx2)] [1,11,12,13,14] [(1,vI x2)] (qs (aE hC [15,16] [(16,vD (x2<0))] (aY h (fun c2 h=>?_) fun c2 h=>?_)))
 ·obtain rfl:=so h;exact aE hC [4] [(4,vI (-1))] zr
 obtain rfl:=so h;exact qk (aE hC [4,17] [(4,vI x2)] zr)
theorem R7{a}{left}{r}(h:s6 n a left=some r):PQ G 112 [vM aH a,vI left] (vI r):=by
 refine pq aU Tryz.func112 rfl fun w X hC=>bB hC [4] (aV hC [oN aH a] [1,6,7,8,9] [(1,vI (wr (left-(a.length:Int))))] (qs (aE hC [10,11] [(11,vD (wr (left-(a.length:Int))<0))] (aY h (fun c1 h=>?_) fun c1 h=>?_))))
 ·obtain rfl:=so h;exact aE hC [4] [(4,vI (-1))] zr
 refine qk (qs (aE hC [5] [(5,vI 0)] (qb (gK h (fun x_=>dO [(0,vM aH a),(1,vI x_.1),(5,vI x_.2)]) lS ?_))));rintro again3 ⟨x1,x2⟩ h;refine qs (aV hC [oN aH a] (fr 12 4) [(15,vK x2 a)] (aY h (fun c2 h=>?_) fun c2 h=>?_))
 ·refine qk (dU ?_);obtain⟨x4,hx4,x5,hx5,h⟩:=iT h;refine aV hC [oR aH hx4,oV (aAf G hx5)] [1,18,19,20,21,22,23] [(1,vI x5)] (aE hC [24,25] [(25,vD (x5<0))] (aY h (fun c3 h=>?_) fun c3 h=>qk (bA hC [5,16,17] [(5,vI (wr (x2+1)))] (lE h))));obtain rfl:=so h;exact aE hC [4] [(4,vI (-1))] zr
 obtain rfl:=so h;exact dN (aE hC [4,26] [(4,vI x1)] zr)
theorem aAh{a}{left}{r}(h:wN n a left=some r):PQ G 149 [V.agg (vF a),vI left] (vI r):=by
 refine pq aU Tryz.func149 rfl fun w X hC=>aV hC [.z (.b (true))] [2,4] [(2,V.tp (nE a))] ?_;obtain⟨x1,hx1,h⟩:=bd h;refine aV hC [oV (lQ G hx1)] [1,5,6,7,8] [(1,vI x1)] (qs (aE hC [9,10] [(10,vD (x1<0))] (aY h (fun c1 h=>?_) fun c1 h=>?_)))
 ·obtain rfl:=so h;exact aE hC [4] [(4,vI (-1))] zr
 refine qk ?_;obtain⟨x2,hx2,h⟩:=bd h;refine aV hC [oV (lQ G hx2)] [1,11,12,13,14] [(1,vI x2)] (qs (aE hC [15,16] [(16,vD (x2<0))] (aY h (fun c2 h=>?_) fun c2 h=>?_)))
 ·obtain rfl:=so h;exact aE hC [4] [(4,vI (-1))] zr
 obtain rfl:=so h;exact qk (aE hC [4,17] [(4,vI x2)] zr)
theorem R9{a}{left}{r}(h:s7 n a left=some r):PQ G 111 [vM aI a,vI left] (vI r):=by
 refine pq aU Tryz.func111 rfl fun w X hC=>bB hC [4] (aV hC [oN aI a] [1,6,7,8,9] [(1,vI (wr (left-(a.length:Int))))] (qs (aE hC [10,11] [(11,vD (wr (left-(a.length:Int))<0))] (aY h (fun c1 h=>?_) fun c1 h=>?_))))
 ·obtain rfl:=so h;exact aE hC [4] [(4,vI (-1))] zr
 refine qk (qs (aE hC [5] [(5,vI 0)] (qb (gK h (fun x_=>dO [(0,vM aI a),(1,vI x_.1),(5,vI x_.2)]) lS ?_))));rintro again3 ⟨x1,x2⟩ h;refine qs (aV hC [oN aI a] (fr 12 4) [(15,vK x2 a)] (aY h (fun c2 h=>?_) fun c2 h=>?_))
 ·refine qk (dU ?_);obtain⟨x4,hx4,x5,hx5,h⟩:=iT h;refine aV hC [oR aI hx4,oV (aAh G hx5)] [1,18,19,20,21,22,23] [(1,vI x5)] (aE hC [24,25] [(25,vD (x5<0))] (aY h (fun c3 h=>?_) fun c3 h=>qk (bA hC [5,16,17] [(5,vI (wr (x2+1)))] (lE h))));obtain rfl:=so h;exact aE hC [4] [(4,vI (-1))] zr
 obtain rfl:=so h;exact dN (aE hC [4,26] [(4,vI x1)] zr)
theorem aAg{a}{left}{r}(h:wM n a left=some r):PQ G 75 [V.agg (vE a),vI left] (vI r):=by
 refine pq aU Tryz.func75 rfl fun w X hC=>aV hC [.z (.b (true))] [2,4] [(2,V.tp (iS a))] ?_;obtain⟨x1,hx1,h⟩:=bd h;refine aV hC [oV (R9 G hx1)] [1,5,6,7,8] [(1,vI x1)] (qs (aE hC [9,10] [(10,vD (x1<0))] (aY h (fun c1 h=>?_) fun c1 h=>?_)))
 ·obtain rfl:=so h;exact aE hC [4] [(4,vI (-1))] zr
 refine qk ?_;obtain⟨x2,hx2,h⟩:=bd h;refine aV hC [oV (R7 G hx2)] [1,11,12,13,14] [(1,vI x2)] (qs (aE hC [15,16] [(16,vD (x2<0))] (aY h (fun c2 h=>?_) fun c2 h=>?_)))
 ·obtain rfl:=so h;exact aE hC [4] [(4,vI (-1))] zr
 obtain rfl:=so h;exact qk (aE hC [4,17] [(4,vI x2)] zr)
theorem R8{a}{left}{r}(h:A6 n a left=some r):PQ G 31 [vM aK a,vI left] (vI r):=by
 refine pq aU Tryz.func31 rfl fun w X hC=>bB hC [4] (aV hC [oN aK a] [1,6,7,8,9] [(1,vI (wr (left-(a.length:Int))))] (qs (aE hC [10,11] [(11,vD (wr (left-(a.length:Int))<0))] (aY h (fun c1 h=>?_) fun c1 h=>?_))))
 ·obtain rfl:=so h;exact aE hC [4] [(4,vI (-1))] zr
 refine qk (qs (aE hC [5] [(5,vI 0)] (qb (gK h (fun x_=>dO [(0,vM aK a),(1,vI x_.1),(5,vI x_.2)]) lS ?_))));rintro again3 ⟨x1,x2⟩ h;refine qs (aV hC [oN aK a] (fr 12 4) [(15,vK x2 a)] (aY h (fun c2 h=>?_) fun c2 h=>?_))
 ·refine qk (dU ?_);obtain⟨x4,hx4,x5,hx5,h⟩:=iT h;refine aV hC [oR aK hx4,oV (aAg G hx5)] [1,18,19,20,21,22,23] [(1,vI x5)] (aE hC [24,25] [(25,vD (x5<0))] (aY h (fun c3 h=>?_) fun c3 h=>qk (bA hC [5,16,17] [(5,vI (wr (x2+1)))] (lE h))));obtain rfl:=so h;exact aE hC [4] [(4,vI (-1))] zr
 obtain rfl:=so h;exact dN (aE hC [4,26] [(4,vI x1)] zr)
theorem zW{a}{left}{r}(h:nR n a left=some r):PQ G 8 [V.agg (nJ a),vI left] (vI r):=by
 refine pq aU Tryz.func8 rfl fun w X hC=>aV hC [.z (.b (true))] [2,4] [(2,V.tp (cT a))] ?_;obtain⟨x1,hx1,h⟩:=bd h;refine aV hC [oV (L5 G hx1)] [1,5,6,7,8] [(1,vI x1)] (qs (aE hC [9,10] [(10,vD (x1<0))] (aY h (fun c1 h=>?_) fun c1 h=>?_)))
 ·obtain rfl:=so h;exact aE hC [4] [(4,vI (-1))] zr
 refine qk ?_;obtain⟨x2,hx2,h⟩:=bd h;refine aV hC [oV (R8 G hx2)] [1,11,12,13,14] [(1,vI x2)] (qs (aE hC [15,16] [(16,vD (x2<0))] (aY h (fun c2 h=>?_) fun c2 h=>?_)))
 ·obtain rfl:=so h;exact aE hC [4] [(4,vI (-1))] zr
 obtain rfl:=so h;exact qk (aE hC [4,17] [(4,vI x2)] zr)
theorem sJ{list}{r}(h:mO n list=some r):PQ G 76 [vM aQ list] (vB r):=by
 refine pq aU Tryz.func76 rfl fun w X hC=>bB hC [2] (qs (aE hC [3] [(3,vI 0)] (qb (gK h (fun x_=>dO [(0,vM aQ list),(3,vI x_)]) lS ?_))));rintro again2 x1 h;refine qs (aV hC [oN aQ list] (fr 6 4) [(9,vK x1 list)] (aY h (fun c1 h=>?_) fun c1 h=>?_))
 ·refine qk (dU ?_);obtain⟨x3,hx3,h⟩:=bd h;refine rq hC [oR aQ hx3,.z (.nat 20)] [4,12,13,14,15] [(4,V.ref 20 0)] [(20,sc [vS x3.name,vM rI x3.dims])] [(20,true)] (qs (vj h (fun x_=>fY [(0,vM aQ list),(3,vI x1),(4,V.ref 20 0),(56,vB x_)] [(20,E.cells [vS x3.name,vM rI x3.dims])] [20]) (fun j4 h=>?_) fun x6 h=>?_))
  ·refine bC h (fun c2 h=>?_) fun c2 h=>oD hC dV (rT 4 c2++sT 19) (fr 16 41) [(56,vB true)] (lE h);refine bC h (fun c3 h=>?_) fun c3 h=>oD hC dV (rF 4 c2++rT 4 c3++sT 15) (fr 16 41) [(56,vB true)] (lE h);refine bC h (fun c4 h=>?_) fun c4 h=>oD hC dV (rF 4 c2++rF 4 c3++rT 5 c4++sT 10) (fr 16 41) [(56,vB true)] (lE h);refine bC h (fun c5 h=>?_) fun c5 h=>?_
   ·exact bC h (fun c6 h=>oD hC dV (rF 4 c2++rF 4 c3++rF 3 c4++rF 9 c5++[oF c4,oF c5,oF c4,eF,eF,eF,oN rI x3.dims,eF,eF]++rF 3 c6++[oN rI x3.dims,oF c6,oF c6]) (fr 16 41) [(56,vD ((2:Int)<(x3.dims.length:Int)))] (lE h)) fun c6 h=>oD hC dV (rF 4 c2++rF 4 c3++rF 3 c4++rF 9 c5++[oF c4,oF c5,oF c4,eF,eF,eF,oN rI x3.dims,eF,eF]++rT 5 c6) (fr 16 41) [(56,vB true)] (lE h)
   obtain⟨x5,hx5,h⟩:=bd h;refine bC h (fun c7 h=>?_) fun c7 h=>oD hC dV (rF 4 c2++rF 4 c3++rF 3 c4++rT 4 c5++[oR aQ hx5]++rT 5 c5++[oF c4,oT c5,oF c4]++rT 5 c7++sT 5) (fr 16 41) [(56,vB true)] (lE h);refine bC h (fun c8 h=>?_) fun c8 h=>oD hC dV (rF 4 c2++rF 4 c3++rF 3 c4++rT 4 c5++[oR aQ hx5]++rT 5 c5++[oF c4,oT c5,oF c4]++rF 3 c7++[oN rI x3.dims,oF c7,oF c7]++rT 5 c8) (fr 16 41) [(56,vB true)] (lE h);exact oD hC dV (rF 4 c2++rF 4 c3++rF 3 c4++rT 4 c5++[oR aQ hx5]++rT 5 c5++[oF c4,oT c5,oF c4]++rF 3 c7++[oN rI x3.dims,oF c7,oF c7]++rF 3 c8++[oN rI x3.dims,oF c8,oF c8]) (fr 16 41) [(56,vD ((2:Int)<(x3.dims.length:Int)))] (lE h)
  refine aY h (fun c9 h=>?_) fun c9 h=>?_
  ·cases h;exact aE hC [2] [(2,vB false)] zr
  refine qk (aE hC [5] [(5,vI 0)] (qb (gK h (fun x_=>fY [(0,vM aQ list),(3,vI x1),(4,V.ref 20 0),(5,vI x_)] [(20,E.cells [vS x3.name,vM rI x3.dims])] [20]) lS ?_)));rintro again8 x7 h;refine qs (aV hC [oN rI x3.dims] (fr 57 5) [(61,vK x7 x3.dims)] (aY h (fun c10 h=>?_) fun c10 h=>dN (bA hC [3,10,11] [(3,vI (wr (x1+1)))] (lE h))));refine qk (dU (vj h (fun x_=>fY [(0,vM aQ list),(3,vI x1),(4,V.ref 20 0),(5,vI x7),(77,vB x_)] [(20,E.cells [vS x3.name,vM rI x3.dims])] [20]) (fun j9 h=>?_) fun x11 h=>?_))
  ·obtain⟨x10,hx10,h⟩:=bd h;exact bC h (fun c11 h=>bR hC ([oR rI hx10]++rF 4 c11++[oR rI hx10]++rF 3 c11) (fr 64 14) [(77,vD ((6:Int)<x10))] (lE h)) fun c11 h=>bR hC ([oR rI hx10]++rT 7 c11) (fr 64 14) [(77,vB true)] (lE h)
  refine aY h (fun c12 h=>?_) fun c12 h=>qk (bA hC [5,62,63] [(5,vI (wr (x7+1)))] (lE h));cases h;exact aE hC [2] [(2,vB false)] zr
 cases h;exact dN (aV hC [oN aQ list] [2,78,79,80] [(2,vD ((list.length:Int)≤4))] zr)
theorem kJ{a}{point}{r}(h:fG n a point=some r):PQ G 133 [V.agg (cG a),vM rI point] (vI r):=by
 refine pq aU Tryz.func133 rfl fun w X hC=>aV hC [.z (.b (true))] [2,4] [(2,V.tp (bS a))] (aE hC [5,7,8] [(5,vI a.const)] (qs (aE hC [6] [(6,vI 0)] (qb (gK h (fun x_=>dO [(1,vM rI point),(2,V.tp (bS a)),(5,vI x_.1),(6,vI x_.2)]) lS ?_)))));rintro again3 ⟨x1,x2⟩ h;refine qs (vj h (fun x_=>dO [(1,vM rI point),(2,V.tp (bS a)),(5,vI x1),(6,vI x2),(19,vB x_)]) (fun j4 h=>bC h (fun c1 h=>bR hC ([oN rI point]++rF 6 c1) (fr 9 11) [(19,vB false)] (lE h)) fun c1 h=>bR hC ([oN rI point]++rT 4 c1++[oN rI a.coefs,oT c1,oT c1]) (fr 9 11) [(19,vK x2 a.coefs)] (lE h)) fun x5 h=>?_);refine aY h (fun c2 h=>?_) fun c2 h=>?_
 ·refine qk (dU ?_);obtain⟨x6,hx6,x7,hx7,h⟩:=iT h;exact oD hC dV [oR rI hx6,oR rI hx7] [5,22,23,24,25,26,27,28,29,30,31,32,33] [(5,vI (wr (x1+(wr (x6*x7)))))] (bA hC [6,20,21] [(6,vI (wr (x2+1)))] (lE h))
 obtain rfl:=so h;exact dN (aE hC [4,34] [(4,vI x1)] zr)
theorem vA{loop}{p}{r}(h:lZ n loop p=some r):PQ G 131 [V.agg (vF loop),vM rI p] (V.tup [vI r.1,vI r.2]):=by
 refine pq aU Tryz.func131 rfl fun w X hC=>aV hC [.z (.b (true))] [2,4,5] [(2,V.tp (nE loop))] ?_;obtain⟨x1,hx1,x2,hx2,h⟩:=iT h;refine aV hC [oR aA hx1,oV (kJ G hx2)] [6,12,13,14,15,16,17] [(6,vI x2)] ?_;obtain⟨x3,hx3,x4,hx4,h⟩:=iT h;refine aV hC [oR aA hx3,oV (kJ G hx4)] [7,18,19,20,21,22,23] [(7,vI x4)] (qs (aE hC [8] [(8,vI 1)] (qb (gK h (fun x_=>dO [(1,vM rI p),(2,V.tp (nE loop)),(6,vI x_.1),(7,vI x4),(8,vI x_.2)]) lS ?_))));rintro again7 ⟨x5,x6⟩ h;refine qs (aV hC [oN aA loop.lo] (fr 24 5) [(28,vK x6 loop.lo)] (aY h (fun c1 h=>?_) fun c1 h=>?_))
 ·refine qk (vj h (fun x_=>dO [(1,vM rI p),(2,V.tp (nE loop)),(6,vI x_),(7,vI x4),(8,vI x6)]) (fun j8 h=>?_) fun x11 h=>bA hC [8,29,30] [(8,vI (wr (x6+1)))] (lE h));refine qb ?_;obtain⟨x9,hx9,x10,hx10,h⟩:=iT h;exact aV hC [oR aA hx9,oV (kJ G hx10)] [9,31,32,33,34,35,36,37] [(9,vI x10)] (aE hC [38,39,40] [(40,vD (x5<x10))] (aY h (fun c2 h=>bA hC [6,41] [(6,vI x10)] (lE h)) fun c2 h=>qk (lE h)))
 refine dN (qs (aE hC [10] [(10,vI 1)] (qb (gK h (fun x_=>dO [(1,vM rI p),(2,V.tp (nE loop)),(6,vI x5),(7,vI x_.1),(10,vI x_.2)]) lS ?_))));rintro again14 ⟨x12,x13⟩ h;refine qs (aV hC [oN aA loop.hi] (fr 42 5) [(46,vK x13 loop.hi)] (aY h (fun c3 h=>?_) fun c3 h=>?_))
 ·refine qk (vj h (fun x_=>dO [(1,vM rI p),(2,V.tp (nE loop)),(6,vI x5),(7,vI x_),(10,vI x13)]) (fun j15 h=>?_) fun x18 h=>bA hC [10,47,48] [(10,vI (wr (x13+1)))] (lE h));refine qb ?_;obtain⟨x16,hx16,x17,hx17,h⟩:=iT h;exact aV hC [oR aA hx16,oV (kJ G hx17)] [11,49,50,51,52,53,54,55] [(11,vI x17)] (aE hC [56,57,58] [(58,vD (x17<x12))] (aY h (fun c4 h=>bA hC [7,59] [(7,vI x17)] (lE h)) fun c4 h=>qk (lE h)))
 cases h;exact dN (aE hC [4,5,60,61] [(4,vI x5),(5,vI x12)] zr)
theorem aAq(G:GS): ∀(n:Nat) (nest:List Loop) (p:List Int) (most:Int) {r:Int} (h:s_l2Work n nest p most=some r),PQ G 152 [vM aI nest,vM rI p,vI most] (vI r):=by
 intro n;induction n with
 |zero=>intro nest p most r h;rw [s_l2Work.eq_def] at h;cases h
 |succ n ih=>
  intro nest p most r h;rw [s_l2Work.eq_def] at h;dsimp only at h;refine pq aU Tryz.func152 rfl fun w X hC=>bB hC [6] (aE hC [7] [(7,vI 1)] (qs (aV hC [oN rI p,oN aI nest] (fr 11 5) [(15,vD ((p.length:Int)=(nest.length:Int)))] (aY h (fun c1 h=>?_) fun c1 h=>?_))))
  ·obtain rfl:=so h;exact aE hC [6,16] [(6,vI 1)] zr
  refine qk ?_;obtain⟨x1,hx1,x2,hx2,h⟩:=iT h;refine aV hC [oN rI p,oR aI hx1,oV (vA G hx2)] [8,9,17,18,19,20,21,22,23,24,25,26] [(8,vI x2.1),(9,vI x2.2)] (qs (aE hC [10,27] [(10,vI x2.1)] (qb (gK h (fun x_=>dO [(0,vM aI nest),(1,vM rI p),(2,vI most),(7,vI x_.1),(9,vI x2.2),(10,vI x_.2)]) lS ?_))));rintro again5 ⟨x3,x4⟩ h;refine qs (vj h (fun x_=>dO [(0,vM aI nest),(1,vM rI p),(2,vI most),(7,vI x3),(9,vI x2.2),(10,vI x4),(35,vB x_)]) (fun j6 h=>bC h (fun c2 h=>bR hC (rF 4 c2) (fr 28 8) [(35,vB false)] (lE h)) fun c2 h=>bR hC (rT 4 c2) (fr 28 8) [(35,vD (x3≤most))] (lE h)) fun x7 h=>?_);refine aY h (fun c3 h=>?_) fun c3 h=>?_
  ·refine qk (dU ?_);obtain⟨x8,hx8,x9,hx9,x10,hx10,h⟩:=M1 h;exact rk hC [.z (.nat 20),oA (bT rI hx8),.z (.int 0),oI [],oI p,oA (bT rI hx9),.z (.b (true)),oI x8,oI [x4],oV (ih nest x9 (wr (most-x3)) hx10)] [7,38,39,40,41,42,43,44,45,46,47,48,49,50] [(7,vI (wr (x3+x10)))] [(20,some (ar 3 3 1 rI x9))] [(20,true)] (bA hC [10,36,37] [(10,vI (wr (x4+1)))] (lE h))
  obtain rfl:=so h;exact dN (aE hC [6,51] [(6,vI x3)] zr)
theorem L7(G:GS): ∀(n:Nat) (out:List (List Int)) (outG:Nat) (nest:List Loop) (p:List Int) {r:(List (List Int))} (h:s_l2Points n out nest p=some r),VQ G 87 [ar 39 outG 1 (rL rI) out] [ms 0 outG 1 (rL rI) out,vM aI nest,vM rI p] (ms 0 (outG+1) 1 (rL rI) r) [ar 39 (outG+1) 1 (rL rI) r]:=by
 intro n;induction n with
 |zero=>intro out outG nest p r h;rw [s_l2Points.eq_def] at h;cases h
 |succ n ih=>
  intro out outG nest p r h;rw [s_l2Points.eq_def] at h;dsimp only at h;refine vq aU Tryz.func87 rfl fun w X β0 hC hg=>bB hC [6] (qs (aV hC [oN rI p,oN aI nest] (fr 10 5) [(14,vD ((p.length:Int)=(nest.length:Int)))] (aY h (fun c1 h=>?_) fun c1 h=>?_)))
  ·obtain⟨x1,hx1,x2,hx2,h⟩:=iT h;obtain rfl:=so h;exact rq hC [.z (.nat 20),oA (bT rI hx1),.z (.at 3),.z (.fz 20 [18] []),.z (.int 0),oI [],oI p,oA (bT (rL rI) hx2),oQ (rwM (r:=(rL rI)) 1 (fun _=>rfl) out),oQ (rwM (r:=(rL rI)) 1 (fun _=>rfl) [x1])] [0,6,15,16,17,18,19,20] [(6,ms 0 (outG+1) 1 (rL rI) x2)] [(20,none),(0,some (ar 39 (outG+1) 1 (rL rI) x2))] [(20,true)] (qw (oW 6 0 outG (outG+1) 1 0 (List.map (rL rI) x2).length (e:= .arr 39 (outG+1) 1 (List.map (rL rI) x2)) rfl (by kernel_rfl) (by kernel_rfl) rfl rfl hg.1) zw)
  refine qk ?_;obtain⟨x3,hx3,x4,hx4,h⟩:=iT h;refine aV hC [oN rI p,oR aI hx3,oV (vA G hx4)] [7,8,21,22,23,24,25,26,27,28,29,30] [(7,vI x4.1),(8,vI x4.2)] (qs (aE hC [9,31] [(9,vI x4.1)] (qb (uL h (fun x_ g_=>fY [(0,ms 0 g_ 1 (rL rI) x_.1),(1,vM aI nest),(2,vM rI p),(8,vI x4.2),(9,vI x_.2)] [(0,ar 39 g_ 1 (rL rI) x_.1)] [0]) outG (lS) ?_))));rintro again8 ⟨x5,x6⟩ g7 h;refine qs (vj h (fun x_=>fY [(0,ms 0 g7 1 (rL rI) x5),(1,vM aI nest),(2,vM rI p),(8,vI x4.2),(9,vI x6),(39,vB x_)] [(0,ar 39 g7 1 (rL rI) x5)] [0]) (fun j9 h=>bC h (fun c2 h=>bR hC (rF 4 c2) (fr 32 8) [(39,vB false)] (lE h)) fun c2 h=>bR hC [oT c2,oT c2,oN (rL rI) x5,oT c2,oT c2] (fr 32 8) [(39,vD ((x5.length:Int)≤120))] (lE h)) fun x10 h=>?_);refine aY h (fun c3 h=>?_) fun c3 h=>?_
  ·refine qk (dU ?_);obtain⟨x11,hx11,x12,hx12,x13,hx13,h⟩:=M1 h;exact rk hC [.z (.nat 20),oA (bT rI hx11),.z (.int 0),oI [],oI p,oA (bT rI hx12),.z (.at 2),.z (.fz 20 [49] []),oI x11,oI [x6],oC [0] [] (ih x5 g7 nest x12 hx13)] [0,42,43,44,45,46,47,48,49,50] [(0,ms 0 (g7+1) 1 (rL rI) x13)] [(20,none),(0,some (ar 39 (g7+1) 1 (rL rI) x13))] [(20,true),(0,true)] (bA hC [9,40,41] [(9,vI (wr (x6+1)))] ⟨(x13,wr (x6+1)),(g7+1),h,lS⟩)
  obtain rfl:=so h;exact dN (aE hC [6,51] [(6,ms 0 g7 1 (rL rI) x5)] (qw (oW 6 0 outG g7 1 0 (List.map (rL rI) x5).length (e:= .arr 39 g7 1 (List.map (rL rI) x5)) rfl (by kernel_rfl) (by kernel_rfl) rfl rfl hg.1) zw))
theorem m9{n_a0}{most}{r}(h:gQ n n_a0 most=some r):PQ G 52 [vI n_a0,vI most] (vB r):=by refine pq aU Tryz.func52 rfl fun w X hC=>bB hC [4] (vj h (fun x_=>dO [(4,vB x_)]) (fun j1 h=>bC h (fun c1 h=>bR hC (rF 4 c1) (fr 4 10) [(4,vB false)] (lE h)) fun c1 h=>bR hC (rT 4 c1) (fr 4 10) [(4,vD (n_a0≤most))] (lE h)) fun x2 h=>?_);obtain rfl:=so h;exact zr
theorem dD{a}{r}(h:eA n a=some r):PQ G 185 [V.agg (cG a)] (vB r):=by
 refine pq aU Tryz.func185 rfl fun w X hC=>aV hC [.z (.b (true))] [1,2] [(1,V.tp (bS a))] (qs (aE hC [3] [(3,vI 0)] (qb (gK h (fun x_=>dO [(1,V.tp (bS a)),(3,vI x_)]) lS ?_))));rintro again2 x1 h;refine qs (aV hC [oN rI a.coefs] (fr 4 5) [(8,vK x1 a.coefs)] (aY h (fun c1 h=>?_) fun c1 h=>?_))
 ·refine qk (dU ?_);obtain⟨x3,hx3,x4,hx4,h⟩:=iT h;refine aV hC [oR rI hx3,oV (m9 G hx4)] (fr 11 7) [(17,vB (!x4))] (aY h (fun c2 h=>?_) fun c2 h=>qk (bA hC [3,9,10] [(3,vI (wr (x1+1)))] (lE h)));obtain rfl:=so h;exact aE hC [2] [(2,vB false)] zr
 refine dN (vj h (fun x_=>dO [(2,vB x_)]) (fun j5 h=>?_) fun x7 h=>?_)
 ·refine bC h (fun c3 h=>bR hC ([oN rI a.coefs]++rF 4 c3) [2,18,19,20,21,22,23,24,25,26] [(2,vB false)] (lE h)) fun c3 h=>?_;obtain⟨x6,hx6,h⟩:=bd h;exact bR hC ([oN rI a.coefs]++rT 3 c3++[oV (m9 G hx6),oT c3]) [2,18,19,20,21,22,23,24,25,26] [(2,vB x6)] (lE h)
 obtain rfl:=so h;exact zr
theorem oJ{a}{r}(h:jM n a=some r):PQ G 186 [V.agg (cG a)] (vI r):=by
 refine pq aU Tryz.func186 rfl fun w X hC=>aV hC [.z (.b (true))] [1,2] [(1,V.tp (bS a))] (aE hC [3] [(3,vI 0)] (qs (aE hC [4] [(4,vI 0)] (qb (gK h (fun x_=>dO [(1,V.tp (bS a)),(3,vI x_.1),(4,vI x_.2)]) lS ?_)))));rintro again3 ⟨x1,x2⟩ h;refine qs (aV hC [oN rI a.coefs] (fr 5 5) [(9,vK x2 a.coefs)] (aY h (fun c1 h=>?_) fun c1 h=>?_))
 ·refine qk (vj h (fun x_=>dO [(1,V.tp (bS a)),(3,vI x_),(4,vI x2)]) (fun j4 h=>?_) fun x6 h=>bA hC [4,10,11] [(4,vI (wr (x2+1)))] (lE h));refine qb ?_;obtain⟨x5,hx5,h⟩:=bd h;exact aV hC [oR rI hx5] (fr 12 6) [(17,vB (!decide (x5=0)))] (aY h (fun c2 h=>bA hC [3,18,19] [(3,vI (wr (x2+1)))] (lE h)) fun c2 h=>qk (lE h))
 obtain rfl:=so h;exact dN (aE hC [2,20] [(2,vI x1)] zr)
theorem qK{list}{depth}{r}(h:nZ n list depth=some r):PQ G 184 [vM aA list,vI depth] (vB r):=by
 refine pq aU Tryz.func184 rfl fun w X hC=>bB hC [4] (qs (aE hC [5] [(5,vI 0)] (qb (gK h (fun x_=>dO [(0,vM aA list),(1,vI depth),(5,vI x_)]) lS ?_))));rintro again2 x1 h;refine qs (aV hC [oN aA list] (fr 6 4) [(9,vK x1 list)] (aY h (fun c1 h=>?_) fun c1 h=>?_))
 ·refine qk (dU (vj h (fun x_=>dO [(0,vM aA list),(1,vI depth),(5,vI x1),(26,vB x_)]) (fun j3 h=>?_) fun x7 h=>?_))
  ·obtain⟨x4,hx4,x5,hx5,h⟩:=iT h;refine bC h (fun c2 h=>?_) fun c2 h=>bR hC ([oR aA hx4,oV (dD G hx5)]++rT 8 c2) (fr 12 15) [(26,vB true)] (lE h);obtain⟨x6,hx6,h⟩:=bd h;exact bR hC ([oR aA hx4,oV (dD G hx5)]++rF 3 c2++[oR aA hx4,oF c2,oF c2,oV (oJ G hx6)]++rF 3 c2) (fr 12 15) [(26,vD (depth<x6))] (lE h)
  refine aY h (fun c3 h=>?_) fun c3 h=>qk (bA hC [5,10,11] [(5,vI (wr (x1+1)))] (lE h));obtain rfl:=so h;exact aE hC [4] [(4,vB false)] zr
 refine dN (vj h (fun x_=>dO [(4,vB x_)]) (fun j8 h=>?_) fun x9 h=>?_)
 ·exact bC h (fun c4 h=>bR hC ([oN aA list]++rF 4 c4) [4,27,28,29,30,31,32,33,34] [(4,vB false)] (lE h)) fun c4 h=>bR hC [oN aA list,oT c4,oT c4,oN aA list,oT c4,oT c4] [4,27,28,29,30,31,32,33,34] [(4,vD ((list.length:Int)≤2))] (lE h)
 obtain rfl:=so h;exact zr
theorem pS{nest}{r}(h:lA n nest=some r):PQ G 151 [vM aI nest] (vB r):=by
 refine pq aU Tryz.func151 rfl fun w X hC=>bB hC [2] (qs (aE hC [3] [(3,vI 0)] (qb (gK h (fun x_=>dO [(0,vM aI nest),(3,vI x_)]) lS ?_))));rintro again2 x1 h;refine qs (vj h (fun x_=>dO [(0,vM aI nest),(3,vI x1),(12,vB x_)]) (fun j3 h=>bC h (fun c1 h=>bR hC ([oN aI nest]++rF 4 c1) (fr 4 9) [(12,vB false)] (lE h)) fun c1 h=>bR hC [oN aI nest,oT c1,oT c1,oN aI nest,oT c1,oT c1] (fr 4 9) [(12,vD ((nest.length:Int)≤4))] (lE h)) fun x4 h=>?_);refine aY h (fun c2 h=>?_) fun c2 h=>?_
 ·refine qk (dU (vj h (fun x_=>dO [(0,vM aI nest),(3,vI x1),(32,vB x_)]) (fun j5 h=>?_) fun x9 h=>?_))
  ·obtain⟨x6,hx6,x7,hx7,h⟩:=iT h;refine bC h (fun c3 h=>?_) fun c3 h=>bR hC ([oR aI hx6,oV (qK G hx7)]++rT 9 c3) (fr 15 18) [(32,vB true)] (lE h);obtain⟨x8,hx8,h⟩:=bd h;exact bR hC ([oR aI hx6,oV (qK G hx7)]++rF 3 c3++[oR aI hx6]++rF 4 c3++[oV (qK G hx8),oF c3,oF c3]) (fr 15 18) [(32,vB (!x8))] (lE h)
  refine aY h (fun c4 h=>?_) fun c4 h=>qk (bA hC [3,13,14] [(3,vI (wr (x1+1)))] (lE h));cases h;exact aE hC [2] [(2,vB false)] zr
 cases h;exact dN (aV hC [oN aI nest] [2,33,34,35] [(2,vD ((nest.length:Int)≤4))] zr)
theorem yU{nest}{r}(h:iY n nest=some r):VQ G 113 [] [vM aI nest] (V.tup [ms 0 1 1 (rL rI) r.1,vB r.2]) [ar 39 1 1 (rL rI) r.1]:=by
 refine vq aU Tryz.func113 rfl fun w X β0 hC hg=>bB hC [2,3] (qs (vj h (fun x_=>dO [(0,vM aI nest),(12,vB x_)]) (fun j1 h=>?_) fun x4 h=>?_))
 ·obtain⟨x2,hx2,h⟩:=bd h;refine bC h (fun c1 h=>?_) fun c1 h=>bR hC ([oV (pS G hx2)]++rT 4 c1) (fr 5 8) [(12,vB true)] (lE h);obtain⟨x3,hx3,h⟩:=bd h;exact bR hC [oV (pS G hx2),oF c1,oF c1,oV (aAq G n nest [] 1200 hx3),oF c1,oF c1] (fr 5 8) [(12,vD ((1200:Int)<x3))] (lE h)
 refine aY h (fun c2 h=>?_) fun c2 h=>?_
 ·cases h;exact rq hC [.z (.nat 20)] [2,3,13] [(2,ms 20 1 1 (rL rI) []),(3,vB false)] [(20,some (ar 39 1 1 (rL rI) []))] [(20,true)] (xR hC 2 20 (ms 0 1 1 (rL rI) []) (ar 39 1 1 (rL rI) []))
 refine qk ?_;obtain⟨x5,hx5,h⟩:=bd h;refine rq hC [.z (.nat 20),oC [20] [] (L7 G n [] 1 nest [] hx5)] [4,14,15,16] [(4,ms 20 2 1 (rL rI) x5)] [(20,some (ar 39 2 1 (rL rI) x5))] [(20,true),(20,true)] (qs (aV hC [oN (rL rI) x5] [17,18,19] [(19,vD ((120:Int)<(x5.length:Int)))] (aY h (fun c3 h=>?_) fun c3 h=>?_)))
 ·cases h;exact rq hC [.z (.nat 21)] [2,3,20] [(2,ms 21 1 1 (rL rI) []),(3,vB false)] [(21,some (ar 39 1 1 (rL rI) []))] [(21,true)] (xR hC 2 21 (ms 0 1 1 (rL rI) []) (ar 39 1 1 (rL rI) []))
 cases h;exact qk (aE hC [2,3,21] [(2,ms 20 2 1 (rL rI) x5),(3,vB true)] (xR hC 2 20 (ms 0 1 1 (rL rI) x5) (ar 39 1 1 (rL rI) x5)))
theorem m8{a}{depth}{r}(h:jV n a depth=some r):PQ G 153 [V.agg (eE a),vI depth] (vB r):=by
 refine pq aU Tryz.func153 rfl fun w X hC=>aV hC [.z (.b (true))] [2,4] [(2,V.tp (cM a))] (qs (aE hC [5] [(5,vI 0)] (qb (gK h (fun x_=>dO [(1,vI depth),(2,V.tp (cM a)),(5,vI x_)]) lS ?_))));rintro again2 x1 h;refine qs (aV hC [oN aA a.subs] (fr 6 5) [(10,vK x1 a.subs)] (aY h (fun c1 h=>?_) fun c1 h=>?_))
 ·refine qk (dU (vj h (fun x_=>dO [(1,vI depth),(2,V.tp (cM a)),(5,vI x1),(29,vB x_)]) (fun j3 h=>?_) fun x7 h=>?_))
  ·obtain⟨x4,hx4,x5,hx5,h⟩:=iT h;refine bC h (fun c2 h=>?_) fun c2 h=>bR hC ([oR aA hx4,oV (dD G hx5)]++rT 9 c2) (fr 13 17) [(29,vB true)] (lE h);obtain⟨x6,hx6,h⟩:=bd h;exact bR hC ([oR aA hx4,oV (dD G hx5)]++rF 4 c2++[oR aA hx4,oF c2,oF c2,oV (oJ G hx6)]++rF 3 c2) (fr 13 17) [(29,vD (depth<x6))] (lE h)
  refine aY h (fun c3 h=>?_) fun c3 h=>qk (bA hC [5,11,12] [(5,vI (wr (x1+1)))] (lE h));obtain rfl:=so h;exact aE hC [4] [(4,vB false)] zr
 refine dN (vj h (fun x_=>dO [(4,vB x_)]) (fun j8 h=>?_) fun x9 h=>?_)
 ·refine bC h (fun c4 h=>bR hC (rF 4 c4++sF 14) [4,30,31,32,33,34,35,36,37,38,39,40,41,42,43,44,45,46,47,48,49,50,51,52,53,54,55] [(4,vB false)] (lE h)) fun c4 h=>?_;refine bC h (fun c5 h=>bR hC (rT 4 c4++rF 4 c5++sF 10) [4,30,31,32,33,34,35,36,37,38,39,40,41,42,43,44,45,46,47,48,49,50,51,52,53,54,55] [(4,vB false)] (lE h)) fun c5 h=>?_;refine bC h (fun c6 h=>bR hC (rT 4 c4++rT 4 c5++rF 5 c6++sF 5) [4,30,31,32,33,34,35,36,37,38,39,40,41,42,43,44,45,46,47,48,49,50,51,52,53,54,55] [(4,vB false)] (lE h)) fun c6 h=>?_;refine bC h (fun c7 h=>bR hC (rT 4 c4++rT 4 c5++rT 3 c6++[oN aA a.subs,oT c6,oT c6]++rF 5 c7) [4,30,31,32,33,34,35,36,37,38,39,40,41,42,43,44,45,46,47,48,49,50,51,52,53,54,55] [(4,vB false)] (lE h)) fun c7 h=>?_;exact bR hC (rT 4 c4++rT 4 c5++rT 3 c6++[oN aA a.subs,oT c6,oT c6]++rT 3 c7++[oN aA a.subs,oT c7,oT c7]) [4,30,31,32,33,34,35,36,37,38,39,40,41,42,43,44,45,46,47,48,49,50,51,52,53,54,55] [(4,vD ((a.subs.length:Int)≤2))] (lE h)
 obtain rfl:=so h;exact zr
theorem yT{kind}{r}(h:rD n kind=some r):PQ G 187 [vI kind] (vI r):=by
 refine pq aU Tryz.func187 rfl fun w X hC=>bB hC [2] (qs (aE hC [3] [(3,vI kind)] (qb (vj h (fun x_=>dO [(3,vI kind),(4,vB x_)]) (fun j1 h=>aE hC [4,5] [(4,vD (kind=1))] (aY h (fun c1 h=>qk (lE h)) fun c1 h=>aE hC [4,6] [(4,vD (kind=2))] (aY h (fun c2 h=>qk (lE h)) fun c2 h=>bA hC [4,7] [(4,vD (kind=3))] (lE h)))) fun x2 h=>?_))));refine aY h (fun c3 h=>?_) fun c3 h=>?_
 ·cases h;exact aE hC [2] [(2,vI 0)] zr
 refine vj h (fun x_=>dO [(8,vB x_)]) (fun j3 h=>aE hC [8,9] [(8,vD (kind=4))] (aY h (fun c4 h=>qk (lE h)) fun c4 h=>aE hC [8,10] [(8,vD (kind=5))] (aY h (fun c5 h=>qk (lE h)) fun c5 h=>bA hC [8,11] [(8,vD (kind=6))] (lE h)))) fun x4 h=>?_;refine aY h (fun c6 h=>?_) fun c6 h=>?_
 ·cases h;exact aE hC [2] [(2,vI 2)] zr
 cases h;exact qk (aE hC [2] [(2,vI (-1))] zr)
theorem iN{a}{r}(h:jL n a=some r):PQ G 213 [V.agg (eE a)] (vB r):=by refine pq aU Tryz.func213 rfl fun w X hC=>aV hC [.z (.b (true))] [1,2] [(1,V.tp (cM a))] (vj h (fun x_=>dO [(2,vB x_)]) (fun j1 h=>bC h (fun c1 h=>bR hC (rF 5 c1) (fr 2 10) [(2,vB false)] (lE h)) fun c1 h=>bR hC (rT 3 c1++[oN aA a.subs,oT c1,oT c1]) (fr 2 10) [(2,vD ((a.subs.length:Int)=0))] (lE h)) fun x2 h=>?_);obtain rfl:=so h;exact zr
theorem gX{a}{r}(h:lY n a=some r):PQ G 214 [V.agg (cG a)] (vB r):=by refine pq aU Tryz.func214 rfl fun w X hC=>aV hC [.z (.b (true))] [1,2] [(1,V.tp (bS a))] (vj h (fun x_=>dO [(2,vB x_)]) (fun j1 h=>bC h (fun c1 h=>bR hC ([oN rI a.coefs]++rF 4 c1) (fr 2 10) [(2,vB false)] (lE h)) fun c1 h=>bR hC ([oN rI a.coefs]++rT 4 c1) (fr 2 10) [(2,vD (a.const=0))] (lE h)) fun x2 h=>?_);obtain rfl:=so h;exact zr
theorem aBT{e}{depth}{r}(h:v2 n e depth=some r):PQ G 188 [V.agg (kM e),vI depth] (vB r):=by
 refine pq aU Tryz.func188 rfl fun w X hC=>aV hC [.z (.b (true))] [2,4] [(2,V.tp (fW e))] (qs (aE hC [5,6,7] [(7,vD (e.kind=2))] (aY h (fun c1 h=>?_) fun c1 h=>?_)))
 ·refine vj h (fun x_=>dO [(4,vB x_)]) (fun j1 h=>?_) fun x5 h=>?_
  ·refine bC h (fun c2 h=>bR hC (rF 4 c2++sF 10) [4,8,9,10,11,12,13,14,15,16,17,18,19,20,21,22,23,24,25,26,27] [(4,vB false)] (lE h)) fun c2 h=>?_;obtain⟨x2,hx2,h⟩:=bd h;refine bC h (fun c3 h=>bR hC (rT 3 c2++[oV (iN G hx2),oT c2]++rF 4 c3++sF 6) [4,8,9,10,11,12,13,14,15,16,17,18,19,20,21,22,23,24,25,26,27] [(4,vB false)] (lE h)) fun c3 h=>?_;obtain⟨x3,hx3,h⟩:=bd h;refine bC h (fun c4 h=>bR hC (rT 3 c2++[oV (iN G hx2),oT c2]++rT 3 c3++[oV (dD G hx3),oT c3]++rF 6 c4) [4,8,9,10,11,12,13,14,15,16,17,18,19,20,21,22,23,24,25,26,27] [(4,vB false)] (lE h)) fun c4 h=>?_;obtain⟨x4,hx4,h⟩:=bd h;exact bR hC (rT 3 c2++[oV (iN G hx2),oT c2]++rT 3 c3++[oV (dD G hx3),oT c3]++rT 3 c4++[oV (oJ G hx4)]++rT 3 c4) [4,8,9,10,11,12,13,14,15,16,17,18,19,20,21,22,23,24,25,26,27] [(4,vD (x4≤depth))] (lE h)
  obtain rfl:=so h;exact zr
 refine qk (qs (aE hC [28,29,30] [(30,vD (e.kind=3))] (aY h (fun c5 h=>?_) fun c5 h=>?_)))
 ·refine vj h (fun x_=>dO [(4,vB x_)]) (fun j6 h=>?_) fun x9 h=>?_
  ·refine bC h (fun c6 h=>bR hC (rF 4 c6++sF 5) [4,31,32,33,34,35,36,37,38,39,40,41,42,43,44] [(4,vB false)] (lE h)) fun c6 h=>?_;obtain⟨x7,hx7,h⟩:=bd h;refine bC h (fun c7 h=>bR hC (rT 3 c6++[oV (gX G hx7),oT c6]++rF 5 c7) [4,31,32,33,34,35,36,37,38,39,40,41,42,43,44] [(4,vB false)] (lE h)) fun c7 h=>?_;obtain⟨x8,hx8,h⟩:=bd h;exact bR hC (rT 3 c6++[oV (gX G hx7),oT c6]++rT 4 c7++[oV (m8 G hx8),oT c7]) [4,31,32,33,34,35,36,37,38,39,40,41,42,43,44] [(4,vB x8)] (lE h)
  obtain rfl:=so h;exact zr
 refine qk (qs (aE hC [45,46,47] [(47,vD (e.kind=1))] (aY h (fun c8 h=>?_) fun c8 h=>?_)))
 ·refine vj h (fun x_=>dO [(4,vB x_)]) (fun j10 h=>?_) fun x13 h=>?_
  ·refine bC h (fun c9 h=>bR hC (rF 4 c9++sF 8) [4,48,49,50,51,52,53,54,55,56,57,58,59,60,61,62,63,64,65] [(4,vB false)] (lE h)) fun c9 h=>?_;refine bC h (fun c10 h=>bR hC (rT 4 c9++rF 4 c10++sF 4) [4,48,49,50,51,52,53,54,55,56,57,58,59,60,61,62,63,64,65] [(4,vB false)] (lE h)) fun c10 h=>?_;obtain⟨x11,hx11,h⟩:=bd h;refine bC h (fun c11 h=>bR hC (rT 4 c9++rT 3 c10++[oV (gX G hx11),oT c10]++rF 4 c11) [4,48,49,50,51,52,53,54,55,56,57,58,59,60,61,62,63,64,65] [(4,vB false)] (lE h)) fun c11 h=>?_;obtain⟨x12,hx12,h⟩:=bd h;exact bR hC (rT 4 c9++rT 3 c10++[oV (gX G hx11),oT c10]++rT 3 c11++[oV (iN G hx12),oT c11]) [4,48,49,50,51,52,53,54,55,56,57,58,59,60,61,62,63,64,65] [(4,vB x12)] (lE h)
  obtain rfl:=so h;exact zr
 refine qk (vj h (fun x_=>dO [(4,vB x_)]) (fun j14 h=>?_) fun x17 h=>?_)
 ·refine bC h (fun c12 h=>bR hC (rF 4 c12++sF 4) [4,66,67,68,69,70,71,72,73,74,75,76,77,78] [(4,vB false)] (lE h)) fun c12 h=>?_;obtain⟨x15,hx15,h⟩:=bd h;refine bC h (fun c13 h=>bR hC (rT 3 c12++[oV (gX G hx15),oT c12]++rF 4 c13) [4,66,67,68,69,70,71,72,73,74,75,76,77,78] [(4,vB false)] (lE h)) fun c13 h=>?_;obtain⟨x16,hx16,h⟩:=bd h;exact bR hC (rT 3 c12++[oV (gX G hx15),oT c12]++rT 3 c13++[oV (iN G hx16),oT c13]) [4,66,67,68,69,70,71,72,73,74,75,76,77,78] [(4,vB x16)] (lE h)
 obtain rfl:=so h;exact zr
theorem S8(G:GS): ∀(n:Nat) (e:Expr) (depth:Int) (levels:Int) {r:Bool} (h:s_l3Shape n e depth levels=some r),PQ G 154 [V.agg (kM e),vI depth,vI levels] (vB r):=by
 intro n;induction n with
 |zero=>intro e depth levels r h;rw [s_l3Shape.eq_def] at h;cases h
 |succ n ih=>
  intro e depth levels r h;rw [s_l3Shape.eq_def] at h;dsimp only at h;refine pq aU Tryz.func154 rfl fun w X hC=>aV hC [.z (.b (true))] [3,6] [(3,V.tp (fW e))] (qs (vj h (fun x_=>dO [(1,vI depth),(2,vI levels),(3,V.tp (fW e)),(24,vB x_)]) (fun j1 h=>?_) fun x4 h=>?_))
  ·refine bC h (fun c1 h=>?_) fun c1 h=>oD hC dV (rT 8 c1++sT 5) (fr 8 17) [(24,vB true)] (lE h);obtain⟨x2,hx2,h⟩:=bd h;refine bC h (fun c2 h=>?_) fun c2 h=>oD hC dV (rF 3 c1++[oV (yT G hx2)]++rF 3 c1++[oN aC e.kids,oF c1,oF c1]++rT 5 c2) (fr 8 17) [(24,vB true)] (lE h);obtain⟨x3,hx3,h⟩:=bd h;exact oD hC dV (rF 3 c1++[oV (yT G hx2)]++rF 3 c1++[oN aC e.kids,oF c1,oF c1]++rF 3 c2++[oV (aBT G hx3),oF c2,oF c2]) (fr 8 17) [(24,vB (!x3))] (lE h)
  refine aY h (fun c3 h=>?_) fun c3 h=>?_
  ·cases h;exact aE hC [6] [(6,vB false)] zr
  refine qk (qs (aE hC [7] [(7,vI 0)] (qb (gK h (fun x_=>dO [(1,vI depth),(2,vI levels),(3,V.tp (fW e)),(7,vI x_)]) lS ?_))));rintro again6 x5 h;refine qs (aV hC [oN aC e.kids] (fr 25 5) [(29,vK x5 e.kids)] (aY h (fun c4 h=>?_) fun c4 h=>?_))
  ·refine qk (dU ?_);obtain⟨x7,hx7,x8,hx8,h⟩:=iT h;refine aV hC [.z (.row (bK x7)),oQ (gD aC hx7 (aO x7)),oV (ih x7 depth (wr (levels-1)) hx8)] (fr 32 10) [(41,vB (!x8))] (aY h (fun c5 h=>?_) fun c5 h=>qk (bA hC [7,30,31] [(7,vI (wr (x5+1)))] (lE h)));cases h;exact aE hC [6] [(6,vB false)] zr
  cases h;exact dN (aE hC [6] [(6,vB true)] zr)
theorem T0(G:GS): ∀(n:Nat) (e:Expr) (levels:Int) {r:Int} (h:s_l3Count n e levels=some r),PQ G 155 [V.agg (kM e),vI levels] (vI r):=by
 intro n;induction n with
 |zero=>intro e levels r h;rw [s_l3Count.eq_def] at h;cases h
 |succ n ih=>
  intro e levels r h;rw [s_l3Count.eq_def] at h;dsimp only at h;refine pq aU Tryz.func155 rfl fun w X hC=>aV hC [.z (.b (true))] [2,4] [(2,V.tp (fW e))] (aE hC [5] [(5,vI 1)] (qs (aE hC [6] [(6,vI 0)] (qb (gK h (fun x_=>dO [(1,vI levels),(2,V.tp (fW e)),(5,vI x_.1),(6,vI x_.2)]) lS ?_)))));rintro again3 ⟨x1,x2⟩ h;refine qs (vj h (fun x_=>dO [(1,vI levels),(2,V.tp (fW e)),(5,vI x1),(6,vI x2),(15,vB x_)]) (fun j4 h=>bC h (fun c1 h=>bR hC ([oN aC e.kids]++rF 3 c1) (fr 7 9) [(15,vB false)] (lE h)) fun c1 h=>bR hC ([oN aC e.kids]++rT 3 c1) (fr 7 9) [(15,vD ((0:Int)<levels))] (lE h)) fun x5 h=>?_);refine aY h (fun c2 h=>?_) fun c2 h=>?_
  ·refine qk (dU ?_);obtain⟨x6,hx6,x7,hx7,h⟩:=iT h;exact bR hC [.z (.row (bK x6)),oQ (gD aC hx6 (aO x6)),oV (ih x6 (wr (levels-1)) hx7)] [5,18,19,20,21,22,23,24,25,26,27] [(5,vI (wr (x1+x7)))] (bA hC [6,16,17] [(6,vI (wr (x2+1)))] (lE h))
  obtain rfl:=so h;exact dN (aE hC [4,28] [(4,vI x1)] zr)
theorem A0{s}{depth}{r}(h:kZ n s depth=some r):PQ G 114 [V.agg (nI s),vI depth] (vB r):=by
 refine pq aU Tryz.func114 rfl fun w X hC=>aV hC [.z (.b (true))] [2,4] [(2,V.tp (nD s))] (qs (vj h (fun x_=>dO [(2,V.tp (nD s)),(24,vB x_)]) (fun j1 h=>?_) fun x4 h=>?_))
 ·refine bC h (fun c1 h=>?_) fun c1 h=>bR hC (rT 3 c1++sT 12) (fr 5 20) [(24,vB true)] (lE h);refine bC h (fun c2 h=>?_) fun c2 h=>bR hC (rF 3 c1++rT 6 c2++sT 6) (fr 5 20) [(24,vB true)] (lE h);obtain⟨x2,hx2,h⟩:=bd h;refine bC h (fun c3 h=>?_) fun c3 h=>bR hC (rF 3 c1++rF 4 c2++[oV (m8 G hx2),oF c2,oF c2]++rT 6 c3) (fr 5 20) [(24,vB true)] (lE h);obtain⟨x3,hx3,h⟩:=bd h;exact bR hC (rF 3 c1++rF 4 c2++[oV (m8 G hx2),oF c2,oF c2]++rF 4 c3++[oV (S8 G n s.value depth 5 hx3),oF c3,oF c3]) (fr 5 20) [(24,vB (!x3))] (lE h)
 refine aY h (fun c4 h=>?_) fun c4 h=>?_
 ·cases h;exact aE hC [4] [(4,vB false)] zr
 refine qk ?_;obtain⟨x5,hx5,h⟩:=bd h;cases h;exact aV hC [oV (T0 G n s.value 5 hx5)] [4,25,26,27,28] [(4,vD (x5≤12))] zr
end Go.Lift
