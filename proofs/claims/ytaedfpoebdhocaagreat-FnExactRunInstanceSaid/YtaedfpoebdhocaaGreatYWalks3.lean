/- The walks: the code computes what the plain functions say. -/
import Derived.Test.YtaedfpoebdhocaaGreatYModels
import Derived.Test.YtaedfpoebdhocaaGreatYWalks2
set_option maxRecDepth 10000
set_option linter.unusedVariables false
namespace Go.Lift
open Go Go.Proofs
variable (G:GS) {n:Nat}
theorem aBl(G:GS): ∀(n:Nat) (a:Expr) (b:Expr) {r:Bool} (h:w_eqExpr n a b=some r),PQ G 173 [V.agg (jG a),V.agg (jG b)] (vB r):=by
 intro n;induction n with
 |zero=>intro a b r h;rw [w_eqExpr.eq_def] at h;cases h
 |succ n ih=>
  intro a b r h;rw [w_eqExpr.eq_def] at h;dsimp only at h;refine pq aQ Tryz.func173 rfl fun w X hC=>aU hC [.z (.b (true)),.z (.b (true))] [2,3,4] [(2,V.tp (fN a)),(3,V.tp (fN b))] (qs (aE hC (fr 5 5) [(9,vB (!decide (a.kind=b.kind)))] (aZ h (fun c1 h=>?_) fun c1 h=>?_)))
  ·cases h;exact aE hC [4] [(4,vB false)] zr
  refine qk (qs (aE hC (fr 10 5) [(14,vB (!decide (a.num=b.num)))] (aZ h (fun c2 h=>?_) fun c2 h=>?_)))
  ·cases h;exact aE hC [4] [(4,vB false)] zr
  refine qk (qs ?_);obtain⟨x1,hx1,h⟩:=bd h;refine aU hC [oV (t8 G hx1)] (fr 15 6) [(20,vB (!x1))] (aZ h (fun c3 h=>?_) fun c3 h=>?_)
  ·cases h;exact aE hC [4] [(4,vB false)] zr
  refine qk (qs ?_);obtain⟨x2,hx2,h⟩:=bd h;refine aU hC [oV (uA G hx2)] (fr 21 6) [(26,vB (!x2))] (aZ h (fun c4 h=>?_) fun c4 h=>?_)
  ·cases h;exact aE hC [4] [(4,vB false)] zr
  refine qk (qs ?_);obtain⟨x3,hx3,h⟩:=bd h;refine aU hC [oV (Y2 G n (w_eqExpr n) (fun q0 q1 r h=>ih q0 q1 h) a.kids b.kids hx3)] (fr 27 6) [(32,vB (!x3))] (aZ h (fun c5 h=>?_) fun c5 h=>?_)
  ·cases h;exact aE hC [4] [(4,vB false)] zr
  cases h;exact qk (aE hC [4] [(4,vB true)] zr)
theorem aBi{a}{b}{r}(h:sJ n a b=some r):PQ G 148 [V.agg (jP a),V.agg (jP b)] (vB r):=by
 refine pq aQ Tryz.func148 rfl fun w X hC=>aU hC [.z (.b (true)),.z (.b (true))] [2,3,4] [(2,V.tp (oD a)),(3,V.tp (oD b))] (qs ?_);obtain⟨x1,hx1,h⟩:=bd h;refine aU hC [oV (uA G hx1)] (fr 5 6) [(10,vB (!x1))] (aZ h (fun c1 h=>?_) fun c1 h=>?_)
 ·cases h;exact aE hC [4] [(4,vB false)] zr
 refine qk (qs ?_);obtain⟨x2,hx2,h⟩:=bd h;refine aU hC [oV (aBl G n a.value b.value hx2)] (fr 11 6) [(16,vB (!x2))] (aZ h (fun c2 h=>?_) fun c2 h=>?_)
 ·cases h;exact aE hC [4] [(4,vB false)] zr
 cases h;exact qk (aE hC [4] [(4,vB true)] zr)
theorem X9{a}{b}{r}(h:uZ n a b=some r):PQ G 113 [vM aG a,vM aG b] (vB r):=by
 refine pq aQ Tryz.func113 rfl fun w X hC=>bC hC [4] (qs (aU hC [oN aG a,oN aG b] (fr 6 5) [(10,vB (!decide ((a.length:Int)=(b.length:Int))))] (aZ h (fun c1 h=>?_) fun c1 h=>?_)))
 ·cases h;exact aE hC [4] [(4,vB false)] zr
 refine qk (qs (aE hC [5] [(5,vI 0)] (qb (gF h (fun x_=>cP [(0,vM aG a),(1,vM aG b),(5,vI x_)]) lS ?_))));rintro again2 x1 h;refine qs (aU hC [oN aG a] (fr 11 4) [(14,vK x1 a)] (aZ h (fun c2 h=>?_) fun c2 h=>?_))
 ·refine qk (eG (qs ?_));obtain⟨x3,hx3,x4,hx4,x5,hx5,h⟩:=yE h;refine nE hC cG [oR aG hx3,oR aG hx4,oV (aBi G hx5)] (fr 17 10) [(26,vB (!x5))] (aZ h (fun c3 h=>?_) fun c3 h=>qk (bG hC [5,15,16] [(5,vI (wr (x1+1)))] (lE h)));cases h;exact aE hC [4] [(4,vB false)] zr
 cases h;exact d4 (aE hC [4] [(4,vB true)] zr)
theorem aBj{a}{b}{r}(h:sK n a b=some r):PQ G 76 [V.agg (C7 a),V.agg (C7 b)] (vB r):=by
 refine pq aQ Tryz.func76 rfl fun w X hC=>aU hC [.z (.b (true)),.z (.b (true))] [2,3,4] [(2,V.tp (jN a)),(3,V.tp (jN b))] (qs ?_);obtain⟨x1,hx1,h⟩:=bd h;refine aU hC [oV (Y1 G hx1)] (fr 5 6) [(10,vB (!x1))] (aZ h (fun c1 h=>?_) fun c1 h=>?_)
 ·cases h;exact aE hC [4] [(4,vB false)] zr
 refine qk (qs ?_);obtain⟨x2,hx2,h⟩:=bd h;refine aU hC [oV (X9 G hx2)] (fr 11 6) [(16,vB (!x2))] (aZ h (fun c2 h=>?_) fun c2 h=>?_)
 ·cases h;exact aE hC [4] [(4,vB false)] zr
 cases h;exact qk (aE hC [4] [(4,vB true)] zr)
theorem Y0{a}{b}{r}(h:u4 n a b=some r):PQ G 44 [vM aJ a,vM aJ b] (vB r):=by
 refine pq aQ Tryz.func44 rfl fun w X hC=>bC hC [4] (qs (aU hC [oN aJ a,oN aJ b] (fr 6 5) [(10,vB (!decide ((a.length:Int)=(b.length:Int))))] (aZ h (fun c1 h=>?_) fun c1 h=>?_)))
 ·cases h;exact aE hC [4] [(4,vB false)] zr
 refine qk (qs (aE hC [5] [(5,vI 0)] (qb (gF h (fun x_=>cP [(0,vM aJ a),(1,vM aJ b),(5,vI x_)]) lS ?_))));rintro again2 x1 h;refine qs (aU hC [oN aJ a] (fr 11 4) [(14,vK x1 a)] (aZ h (fun c2 h=>?_) fun c2 h=>?_))
 ·refine qk (eG (qs ?_));obtain⟨x3,hx3,x4,hx4,x5,hx5,h⟩:=yE h;refine nE hC cG [oR aJ hx3,oR aJ hx4,oV (aBj G hx5)] (fr 17 10) [(26,vB (!x5))] (aZ h (fun c3 h=>?_) fun c3 h=>qk (bG hC [5,15,16] [(5,vI (wr (x1+1)))] (lE h)));cases h;exact aE hC [4] [(4,vB false)] zr
 cases h;exact d4 (aE hC [4] [(4,vB true)] zr)
theorem G1{a}{b}{r}(h:l4 n a b=some r):PQ G 12 [V.agg (fP a),V.agg (fP b)] (vB r):=by
 refine pq aQ Tryz.func12 rfl fun w X hC=>aU hC [.z (.b (true)),.z (.b (true))] [2,3,4] [(2,V.tp (bZ a)),(3,V.tp (bZ b))] (qs ?_);obtain⟨x1,hx1,h⟩:=bd h;refine aU hC [oV (R2 G hx1)] (fr 5 6) [(10,vB (!x1))] (aZ h (fun c1 h=>?_) fun c1 h=>?_)
 ·cases h;exact aE hC [4] [(4,vB false)] zr
 refine qk (qs ?_);obtain⟨x2,hx2,h⟩:=bd h;refine aU hC [oV (Y0 G hx2)] (fr 11 6) [(16,vB (!x2))] (aZ h (fun c2 h=>?_) fun c2 h=>?_)
 ·cases h;exact aE hC [4] [(4,vB false)] zr
 cases h;exact qk (aE hC [4] [(4,vB true)] zr)
theorem kH{k}{r}(h:eS n k=some r):PQ G 77 [vI k] (vS r):=by
 refine pq aQ Tryz.func77 rfl fun w X hC=>bC hC [2] (qs (aE hC [4,5] [(5,vD (k≤0))] (aZ h (fun c1 h=>?_) fun c1 h=>?_)))
 ·obtain rfl:=so h;exact aE hC [2] [(2,vS [109,48])] zr
 refine qk (aE hC [3] [(3,vS [])] (eG (gF h (fun x_=>cP [(0,vI x_.1),(3,vS x_.2)]) lS ?_)));rintro again3 ⟨x1,x2⟩ h;refine qs (aE hC [6,7] [(7,vD ((0:Int)<x1))] (aZ h (fun c2 h=>?_) fun c2 h=>?_))
 ·refine qk (qb ?_);obtain⟨x4,hx4,h⟩:=bd h;exact aU hC [.z (.y (UInt8.ofInt (wr (48+(Int.tmod x1 10))))),.z (.int 0),.z (.str [UInt8.ofInt (wr (48+(Int.tmod x1 10)))]),oQ (show(10:Int)≠0 by decide),oQ (Eq.refl (UInt8.ofInt (wr (48+(Int.tmod x1 10))))),oQ (Eq.refl (List.map kK [UInt8.ofInt (wr (48+(Int.tmod x1 10)))])),oS hx4] [3,8,9,10,11,12,13,14,15] [(3,vS x4)] (bK hC [oQ (show(10:Int)≠0 by decide)] [0,16,17] [(0,vI (wr (Int.tdiv x1 10)))] (lE h))
 refine d4 ?_;obtain⟨x5,hx5,h⟩:=bd h;obtain rfl:=so h;exact aU hC [oS hx5] [2,18,19] [(2,vS x5)] zr
theorem Y4{p}{r}(h:qD n p=some r):PQ G 80 [V.agg (fP p)] (vI r):=by
 refine pq aQ Tryz.func80 rfl fun w X hC=>aU hC [.z (.b (true))] [1,2] [(1,V.tp (bZ p))] (aE hC [3] [(3,vI 0)] (qs (aE hC [4] [(4,vI 0)] (qb (gF h (fun x_=>cP [(1,V.tp (bZ p)),(3,vI x_.1),(4,vI x_.2)]) lS ?_)))));rintro again3 ⟨x1,x2⟩ h;refine qs (aU hC [oN aN p.arrays] (fr 5 5) [(9,vK x2 p.arrays)] (aZ h (fun c1 h=>?_) fun c1 h=>?_))
 ·refine qk (eG ?_);obtain⟨x4,hx4,x5,hx5,h⟩:=gG h;exact bK hC [oR aN hx4,oV (C0 G hx5)] [3,12,13,14,15,16,17,18,19] [(3,vI (wr (x1+x5)))] (bG hC [4,10,11] [(4,vI (wr (x2+1)))] (lE h))
 obtain rfl:=so h;exact d4 (aE hC [2,20] [(2,vI x1)] zr)
theorem oL{p}{m}{r}(h:iM n p m=some r):PQ G 48 [V.agg (fP p),vM rI m] (vB r):=by
 refine pq aQ Tryz.func48 rfl fun w X hC=>aU hC [.z (.b (true))] [2,4] [(2,V.tp (bZ p))] (qs (aE hC [5] [(5,vI 0)] (qb (gF h (fun x_=>cP [(1,vM rI m),(2,V.tp (bZ p)),(5,vI x_)]) lS ?_))));rintro again2 x1 h;refine qs (aU hC [oN rI m] (fr 6 4) [(9,vK x1 m)] (aZ h (fun c1 h=>?_) fun c1 h=>?_))
 ·refine qk (eG (vj h (fun x_=>cP [(1,vM rI m),(2,V.tp (bZ p)),(5,vI x1),(23,vB x_)]) (fun j3 h=>?_) fun x5 h=>?_))
  ·obtain⟨x4,hx4,h⟩:=bd h;exact bA h (fun c2 h=>bK hC ([oR rI hx4]++rF 3 c2++[oR rI hx4]++rF 3 c2) (fr 12 12) [(23,vD ((999:Int)<x4))] (lE h)) fun c2 h=>bK hC ([oR rI hx4]++rT 6 c2) (fr 12 12) [(23,vB true)] (lE h)
  refine aZ h (fun c3 h=>?_) fun c3 h=>qk (bG hC [5,10,11] [(5,vI (wr (x1+1)))] (lE h));obtain rfl:=so h;exact aE hC [4] [(4,vB false)] zr
 refine d4 (vj h (fun x_=>cP [(4,vB x_)]) (fun j6 h=>?_) fun x9 h=>?_)
 ·obtain⟨x7,hx7,h⟩:=bd h;refine bA h (fun c4 h=>bK hC ([oV (nA G hx7)]++rF 6 c4) [4,24,25,26,27,28,29,30,31,32] [(4,vB false)] (lE h)) fun c4 h=>?_;obtain⟨x8,hx8,h⟩:=bd h;exact bK hC [oV (nA G hx7),oT c4,oT c4,oN rI m,oT c4,oT c4,oV (Y4 G hx8),oT c4,oT c4] [4,24,25,26,27,28,29,30,31,32] [(4,vD ((m.length:Int)=x8))] (lE h)
 obtain rfl:=so h;exact zr
theorem nZ{n_a0}{r}(h:lD n n_a0=some r):PQ G 118 [vI n_a0] (vI r):=by
 refine pq aQ Tryz.func118 rfl fun w X hC=>bC hC [2] (aU hC [oQ (show(1000:Int)≠0 by decide)] [0,3,4] [(0,vI (Int.tmod n_a0 1000))] (qs (aE hC [5,6] [(6,vD (Int.tmod n_a0 1000<0))] (aZ h (fun c1 h=>?_) fun c1 h=>?_))))
 ·cases h;exact aE hC [2,7,8,9] [(2,vI (wr ((wr ((Int.tmod n_a0 1000)+999))+1)))] zr
 cases h;exact qk (aE hC [2,10] [(2,vI (Int.tmod n_a0 1000))] zr)
theorem aBm(G:GS): ∀(n:Nat) (list:List Arr) (m:List Int) (e:Expr) (point:List Int) {r:Int} (h:s_l5Eval n list m e point=some r),PQ G 82 [vM aN list,vM rI m,V.agg (jG e),vM rI point] (vI r):=by
 intro n;induction n with
 |zero=>intro list m e point r h;rw [s_l5Eval.eq_def] at h;cases h
 |succ n ih=>
  intro list m e point r h;rw [s_l5Eval.eq_def] at h;dsimp only at h;refine pq aQ Tryz.func82 rfl fun w X hC=>aU hC [.z (.b (true))] [6,8] [(6,V.tp (fN e))] (qs (aE hC [11,12] [(12,vI e.kind)] (qb (aE hC [13,14] [(13,vD (e.kind=1))] (aZ h (fun c1 h=>?_) fun c1 h=>?_)))))
  ·obtain rfl:=so h;exact aE hC [8,15,16] [(8,vI e.num)] zr
  refine aE hC [17,18] [(17,vD (e.kind=2))] (aZ h (fun c2 h=>?_) fun c2 h=>?_)
  ·obtain⟨x1,hx1,x2,hx2,h⟩:=gG h;obtain rfl:=so h;exact aU hC [oV (iH G hx1),oV (nZ G hx2)] [8,19,20,21,22,23] [(8,vI x2)] zr
  refine aE hC [24,25] [(24,vD (e.kind=3))] (aZ h (fun c3 h=>?_) fun c3 h=>?_)
  ·obtain⟨x3,hx3,x4,hx4,h⟩:=gG h;obtain rfl:=so h;exact aU hC [oV (n1 G hx3),oR rI hx4] [8,26,27,28,29,30,31,32,33] [(8,vI x4)] zr
  refine qk ?_;obtain⟨x5,hx5,x6,hx6,h⟩:=gG h;refine aU hC [.z (.row (bI x5)),oQ (dV aC hx5 (aL x5)),oV (ih list m x5 point hx6)] [9,34,35,36,37,38,39,40,41] [(9,vI x6)] ?_;obtain⟨x7,hx7,x8,hx8,h⟩:=gG h;refine aU hC [.z (.row (bI x7)),oQ (dV aC hx7 (aL x7)),oV (ih list m x7 point hx8)] [10,42,43,44,45,46,47,48,49] [(10,vI x8)] (qs (aE hC [50,51] [(51,vI e.kind)] (qb (aE hC [52,53] [(52,vD (e.kind=4))] (aZ h (fun c4 h=>?_) fun c4 h=>?_)))))
  ·obtain⟨x9,hx9,h⟩:=bd h;obtain rfl:=so h;exact aU hC [oV (nZ G hx9)] [8,54,55,56,57] [(8,vI x9)] zr
  refine aE hC [58,59] [(58,vD (e.kind=5))] (aZ h (fun c5 h=>?_) fun c5 h=>?_)
  ·obtain⟨x10,hx10,h⟩:=bd h;obtain rfl:=so h;exact aU hC [oV (nZ G hx10)] [8,60,61,62,63] [(8,vI x10)] zr
  refine qk ?_;obtain⟨x11,hx11,h⟩:=bd h;obtain rfl:=so h;exact aU hC [oV (nZ G hx11)] [8,64,65,66,67] [(8,vI x11)] zr
theorem aCT{p}{m}(mG:Nat){x}{r}(h:xS n p m x=some r):VQ G 50 [ar 3 mG 1 rI m] [V.agg (fP p),ms 0 mG 1 rI m,V.agg (oP x)] (V.tup []) [ar 3 mG 1 rI r]:=by refine vq aQ Tryz.func50 rfl fun w X β0 hC hg=>aU hC [.z (.b (true)),.z (.b (true))] [3,5] [(3,V.tp (bZ p)),(5,V.tp (iZ x))] (qs ?_);obtain⟨x1,hx1,x2,hx2,h⟩:=gG h;refine dk hC cG [oR aJ hx1,oR aG hx2,.z (.nat 20)] (fr 6 12) [(6,V.ref 20 0)] [(20,some (E.cells (jP x2)))] [(20,true)] ?_;obtain⟨x3,hx3,x4,hx4,x5,hx5,h⟩:=yE h;obtain⟨x6,hx6,h⟩:=bd h;obtain rfl:=so h;exact dkt hC cG [oV (n1 G hx3),.z (.b (true)),oV (aBm G n p.arrays m x2.value x.point hx4),oQ (oH rI hx5),oX rI hx5,.z (.rows (x6.map rI)),oQ (str rI hx6)] [1,18,19,20,21,22,23,24,25,26,27,28,29,30,31,32,33,34] [(0,some (ar 3 mG 1 rI x6))] [] eW
theorem mJ{p}{r}(h:jK n p=some r):PQ G 84 [V.agg (fP p)] (vI r):=by
 refine pq aQ Tryz.func84 rfl fun w X hC=>aU hC [.z (.b (true))] [1,2] [(1,V.tp (bZ p))] (aE hC [3] [(3,vI 0)] (qs (aU hC [oN aN p.arrays] (fr 6 4) [(7,vM aN p.arrays),(8,vI (p.arrays.length:Int)),(9,vI 0)] (qb (gF h (fun x_=>cP [(3,vI x_.1),(7,vM aN p.arrays),(8,vI (p.arrays.length:Int)),(9,vI x_.2)]) lS ?_)))));rintro again3 ⟨x1,x2⟩ h;refine aE hC [10] [(10,vK x2 p.arrays)] (S3 h (fun c1 h=>?_) fun c1 h=>?_)
 ·refine qk (eG ?_);obtain⟨x4,hx4,h⟩:=bd h;refine rq hC [oR aN hx4,.z (.nat 20)] [5,11,12] [(5,V.ref 20 0)] [(20,sc [vS x4.name,vM rI x4.dims])] [(20,true)] ?_;obtain⟨x5,hx5,h⟩:=bd h;exact bK hC [oV (pU G hx5)] [3,13,14,15,16] [(3,vI (wr (x1+x5)))] (bG hC [9,17] [(9,vI (wr (x2+1)))] (lE h))
 obtain rfl:=so h;exact d4 (aE hC [2,18] [(2,vI x1)] zr)
theorem uG(G:GS)(n:Nat)(n_a0:Int){r:Bool}(h:d7 n n_a0=some r):PQ G 86 [vI n_a0] (vB r):=by refine pq aQ Tryz.func86 rfl fun w X hC=>bC hC [2] ?_;obtain⟨x1,hx1,h⟩:=bd h;cases h;exact aU hC [oV (aY G hx1)] (fr 2 4) [(2,vB (!x1))] zr
theorem oO{p}{m}{r}(h:iO n p m=some r):PQ G 51 [V.agg (fP p),vM rI m] (vB r):=by
 refine pq aQ Tryz.func51 rfl fun w X hC=>aU hC [.z (.b (true))] [2,4] [(2,V.tp (bZ p))] (vj h (fun x_=>cP [(4,vB x_)]) (fun j1 h=>?_) fun x5 h=>?_)
 ·obtain⟨x2,hx2,h⟩:=bd h;refine bA h (fun c1 h=>bK hC ([oV (iI G hx2)]++rF 6 c1++sF 4) (fr 4 15) [(4,vB false)] (lE h)) fun c1 h=>?_;obtain⟨x3,hx3,h⟩:=bd h;refine bA h (fun c2 h=>bK hC ([oV (iI G hx2),oT c1,oT c1,oN rI m,oT c1,oT c1,oV (mJ G hx3),oT c1,oT c1]++rF 4 c2) (fr 4 15) [(4,vB false)] (lE h)) fun c2 h=>?_;obtain⟨x4,hx4,h⟩:=bd h;exact bK hC [oV (iI G hx2),oT c1,oT c1,oN rI m,oT c1,oT c1,oV (mJ G hx3),oT c1,oT c1,oT c2,oT c2,oV (cE G n m 86 (fun q0=>d7 n q0) (fun q0 r h=>uG G n q0 h) hx4),oT c2,oT c2] (fr 4 15) [(4,vB (!x4))] (lE h)
 obtain rfl:=so h;exact zr
theorem n6{n_a0}{r}(h:lM n n_a0=some r):PQ G 122 [vI n_a0] (vI r):=by refine pq aQ Tryz.func122 rfl fun w X hC=>?_;cases h;exact bC hC [2] (aU hC [oQ (show(1000:Int)≠0 by decide),oQ (show(1000:Int)≠0 by decide)] (fr 2 6) [(2,vI (Int.tmod (wr ((wr ((Int.tmod n_a0 1000)+999))+1)) 1000))] zr)
theorem uF(G:GS): ∀(n:Nat) (p:Prog) (m:List Int) (e:Expr) (point:List Int) {r:Int} (h:i_Program_value n p m e point=some r),PQ G 89 [V.agg (fP p),vM rI m,V.agg (jG e),vM rI point] (vI r):=by
 intro n;induction n with
 |zero=>intro p m e point r h;rw [i_Program_value.eq_def] at h;cases h
 |succ n ih=>
  intro p m e point r h;rw [i_Program_value.eq_def] at h;dsimp only at h;refine pq aQ Tryz.func89 rfl fun w X hC=>aU hC [.z (.b (true)),.z (.b (true))] [4,6,8] [(4,V.tp (bZ p)),(6,V.tp (fN e))] (qs (aE hC [11,12] [(12,vI e.kind)] (qb (aE hC [13,14] [(13,vD (e.kind=1))] (aZ h (fun c1 h=>?_) fun c1 h=>?_)))))
  ·obtain rfl:=so h;exact aE hC [8,15,16] [(8,vI e.num)] zr
  refine aE hC [17,18] [(17,vD (e.kind=2))] (aZ h (fun c2 h=>?_) fun c2 h=>?_)
  ·obtain⟨x1,hx1,x2,hx2,h⟩:=gG h;obtain rfl:=so h;exact aU hC [oV (dE G hx1),oV (n6 G hx2)] [8,19,20,21,22,23] [(8,vI x2)] zr
  refine aE hC [24,25] [(24,vD (e.kind=3))] (aZ h (fun c3 h=>?_) fun c3 h=>?_)
  ·obtain⟨x3,hx3,x4,hx4,h⟩:=gG h;obtain rfl:=so h;exact aU hC [oV (dT G hx3),oR rI hx4] [8,26,27,28,29,30,31,32,33] [(8,vI x4)] zr
  refine qk (qs ?_);obtain⟨x5,hx5,x6,hx6,x7,hx7,h⟩:=yE h;obtain⟨x8,hx8,h⟩:=bd h;refine nE hC cG [.z (.row (bI x5)),oQ (dV aC hx5 (aL x5)),oV (ih p m x5 point hx6),.z (.row (bI x7)),oQ (dV aC hx7 (aL x7)),oV (ih p m x7 point hx8)] [9,10,34,35,36,37,38,39,40,41,42,43,44,45,46,47,48,49] [(9,vI x6),(10,vI x8)] (qs (aE hC [50,51] [(51,vI e.kind)] (qb (aE hC [52,53] [(52,vD (e.kind=4))] (aZ h (fun c4 h=>?_) fun c4 h=>?_)))))
  ·obtain⟨x9,hx9,h⟩:=bd h;obtain rfl:=so h;exact aU hC [oV (n6 G hx9)] [8,54,55,56,57] [(8,vI x9)] zr
  refine aE hC [58,59] [(58,vD (e.kind=5))] (aZ h (fun c5 h=>?_) fun c5 h=>?_)
  ·obtain⟨x10,hx10,h⟩:=bd h;obtain rfl:=so h;exact aU hC [oV (n6 G hx10)] [8,60,61,62,63] [(8,vI x10)] zr
  refine qk ?_;obtain⟨x11,hx11,h⟩:=bd h;obtain rfl:=so h;exact aU hC [oV (n6 G hx11)] [8,64,65,66,67] [(8,vI x11)] zr
theorem C5{p}{m}(mG:Nat){x}{r}(h:j7 n p m x=some r):VQ G 54 [ar 3 mG 1 rI m] [V.agg (fP p),ms 0 mG 1 rI m,V.agg (oP x)] (V.tup []) [ar 3 mG 1 rI r]:=by refine vq aQ Tryz.func54 rfl fun w X β0 hC hg=>aU hC [.z (.b (true)),.z (.b (true))] [3,5] [(3,V.tp (bZ p)),(5,V.tp (iZ x))] ?_;obtain⟨x1,hx1,h⟩:=bd h;refine rq hC [oV (wO G hx1),.z (.nat 20)] (fr 6 4) [(6,V.ref 20 0)] [(20,some (E.cells (jP x1)))] [(20,true)] ?_;obtain⟨x2,hx2,x3,hx3,x4,hx4,h⟩:=yE h;obtain⟨x5,hx5,h⟩:=bd h;obtain rfl:=so h;exact dkt hC cG [oV (dT G hx2),.z (.b (true)),oV (uF G n p m x1.value x.point hx3),oQ (oH rI hx4),oX rI hx4,.z (.rows (x5.map rI)),oQ (str rI hx5)] [1,10,11,12,13,14,15,16,17,18,19,20,21,22,23,24] [(0,some (ar 3 mG 1 rI x5))] [] eW
theorem t6{a}{k}{r}(h:kY n a k=some r):PQ G 24 [vM rI a,vI k] (vI r):=by
 refine pq aQ Tryz.func24 rfl fun w X hC=>bC hC [4] (qs (aE hC [5] [(5,vI 0)] (qb (gF h (fun x_=>cP [(0,vM rI a),(1,vI x_.1),(5,vI x_.2)]) lS ?_))));rintro again3 ⟨x1,x2⟩ h;refine qs (aU hC [oN rI a] (fr 6 4) [(9,vK x2 a)] (aZ h (fun c1 h=>?_) fun c1 h=>?_))
 ·refine qk (eG (qs ?_));obtain⟨x4,hx4,h⟩:=bd h;refine aU hC [oR rI hx4] (fr 12 6) [(17,vB (!decide (x4=x1)))] (aZ h (fun c2 h=>?_) fun c2 h=>qk (bG hC [1,18,19] [(1,vI (wr (x1+1)))] (bG hC [5,10,11] [(5,vI (wr (x2+1)))] (lE h))));obtain rfl:=so h;exact aE hC [4] [(4,vI (-1))] zr
 obtain rfl:=so h;exact d4 (aE hC [4,20] [(4,vI x1)] zr)
theorem B7{a}{left}{r}(h:sH n a left=some r):PQ G 27 [V.agg (oP a),vI left] (vI r):=by
 refine pq aQ Tryz.func27 rfl fun w X hC=>aU hC [.z (.b (true))] [2,4] [(2,V.tp (iZ a))] ?_;obtain⟨x1,hx1,h⟩:=bd h;refine aU hC [oV (rY G hx1)] [1,5,6,7,8] [(1,vI x1)] (qs (aE hC [9,10] [(10,vD (x1<0))] (aZ h (fun c1 h=>?_) fun c1 h=>?_)))
 ·obtain rfl:=so h;exact aE hC [4] [(4,vI (-1))] zr
 obtain rfl:=so h;exact qk (aE hC [4,11] [(4,vI x1)] zr)
theorem Y9{nest}{p}{r}(h:qG n nest p=some r):PQ G 93 [vM aH nest,vM rI p] (vB r):=by
 refine pq aQ Tryz.func93 rfl fun w X hC=>bC hC [4] (qs (vj h (fun x_=>cP [(0,vM aH nest),(1,vM rI p),(22,vB x_)]) (fun j1 h=>?_) fun x4 h=>?_))
 ·obtain⟨x2,hx2,h⟩:=bd h;refine bA h (fun c1 h=>?_) fun c1 h=>bK hC ([oV (fY G hx2)]++rT 4 c1++sT 6) (fr 8 15) [(22,vB true)] (lE h);obtain⟨x3,hx3,h⟩:=bd h;exact bA h (fun c2 h=>bK hC [oV (fY G hx2),oF c1,oF c1,oV (pP G hx3),oF c1,oF c1,oF c2,oF c2,oN rI p,oF c2,oF c2,oN aH nest,oF c2,oF c2] (fr 8 15) [(22,vB (!decide ((p.length:Int)=(nest.length:Int))))] (lE h)) fun c2 h=>bK hC ([oV (fY G hx2),oF c1,oF c1,oV (pP G hx3),oF c1,oF c1]++rT 6 c2) (fr 8 15) [(22,vB true)] (lE h)
 refine aZ h (fun c3 h=>?_) fun c3 h=>?_
 ·cases h;exact aE hC [4] [(4,vB false)] zr
 refine qk (qs (aE hC [5] [(5,vI 0)] (qb (gF h (fun x_=>cP [(0,vM aH nest),(1,vM rI p),(5,vI x_)]) lS ?_))));rintro again6 x5 h;refine qs (aU hC [oN rI p] (fr 23 4) [(26,vK x5 p)] (aZ h (fun c4 h=>?_) fun c4 h=>?_))
 ·refine qk (eG (qs ?_));obtain⟨x7,hx7,x8,hx8,x9,hx9,h⟩:=yE h;refine nE hC cG [oR aH hx7,oA (aBN rI hx8),oI p,oV (pO G hx9)] [6,7,29,30,31,32,33,34,35,36,37,38,39] [(6,vI x9.1),(7,vI x9.2)] (vj h (fun x_=>cP [(0,vM aH nest),(1,vM rI p),(5,vI x5),(53,vB x_)]) (fun j10 h=>?_) fun x12 h=>?_)
  ·obtain⟨x11,hx11,h⟩:=bd h;exact bA h (fun c5 h=>bK hC ([oR rI hx11]++rF 3 c5++[oR rI hx11]++rF 4 c5) (fr 40 14) [(53,vD (x9.2≤x11))] (lE h)) fun c5 h=>bK hC ([oR rI hx11]++rT 7 c5) (fr 40 14) [(53,vB true)] (lE h)
  refine aZ h (fun c6 h=>?_) fun c6 h=>qk (bG hC [5,27,28] [(5,vI (wr (x5+1)))] (lE h));cases h;exact aE hC [4] [(4,vB false)] zr
 cases h;exact d4 (aE hC [4] [(4,vB true)] zr)
theorem aEZ{p}{x}{r}(h:N2 n p x=some r):PQ G 58 [V.agg (fP p),V.agg (oP x)] (vB r):=by
 refine pq aQ Tryz.func58 rfl fun w X hC=>aU hC [.z (.b (true)),.z (.b (true))] [2,3,4] [(2,V.tp (bZ p)),(3,V.tp (iZ x))] (qs (vj h (fun x_=>cP [(2,V.tp (bZ p)),(3,V.tp (iZ x)),(16,vB x_)]) (fun j1 h=>bA h (fun c1 h=>bK hC (rF 5 c1++[oN aJ p.parts,oF c1,oF c1]) (fr 6 11) [(16,vD ((p.parts.length:Int)≤x.part))] (lE h)) fun c1 h=>bK hC (rT 7 c1) (fr 6 11) [(16,vB true)] (lE h)) fun x2 h=>?_));refine aZ h (fun c2 h=>?_) fun c2 h=>?_
 ·obtain rfl:=so h;exact aE hC [4] [(4,vB false)] zr
 refine qk ?_;obtain⟨x3,hx3,h⟩:=bd h;refine rq hC [oR aJ hx3,.z (.nat 20)] [5,17,18,19,20,21,22] [(5,V.ref 20 0)] [(20,some (E.cells (C7 x3)))] [(20,true)] (vj h (fun x_=>iE [(4,vB x_)] [(20,E.cells (C7 x3))] [20]) (fun j4 h=>?_) fun x6 h=>?_)
 ·refine bA h (fun c3 h=>bK hC (rF 7 c3++sF 6) [4,23,24,25,26,27,28,29,30,31,32,33,34,35,36,37,38,39,40] [(4,vB false)] (lE h)) fun c3 h=>?_;refine bA h (fun c4 h=>bK hC (rT 5 c3++[oN aG x3.body,oT c3,oT c3]++rF 6 c4) [4,23,24,25,26,27,28,29,30,31,32,33,34,35,36,37,38,39,40] [(4,vB false)] (lE h)) fun c4 h=>?_;obtain⟨x5,hx5,h⟩:=bd h;exact bK hC (rT 5 c3++[oN aG x3.body,oT c3,oT c3]++rT 5 c4++[oV (Y9 G hx5),oT c4]) [4,23,24,25,26,27,28,29,30,31,32,33,34,35,36,37,38,39,40] [(4,vB x5)] (lE h)
 obtain rfl:=so h;exact zr
theorem xM{p}{m}{x}{r}(h:fU n p m x=some r):VQ G 28 [] [V.agg (fP p),vM rI m,V.agg (oP x)] (V.tup [ms 0 1 1 rI r.1,vB r.2]) [ar 3 1 1 rI r.1]:=by
 refine vq aQ Tryz.func28 rfl fun w X β0 hC hg=>aU hC [.z (.b (true)),.z (.b (true))] [3,5,6,7] [(3,V.tp (bZ p)),(5,V.tp (iZ x))] (qs (vj h (fun x_=>cP [(1,vM rI m),(3,V.tp (bZ p)),(5,V.tp (iZ x)),(18,vB x_)]) (fun j1 h=>?_) fun x4 h=>?_))
 ·obtain⟨x2,hx2,h⟩:=bd h;refine bA h (fun c1 h=>?_) fun c1 h=>bK hC ([oV (oL G hx2)]++rT 5 c1) (fr 9 10) [(18,vB true)] (lE h);obtain⟨x3,hx3,h⟩:=bd h;exact bK hC ([oV (oL G hx2)]++rF 3 c1++[oV (aEZ G hx3),oF c1,oF c1]) (fr 9 10) [(18,vB (!x3))] (lE h)
 refine aZ h (fun c2 h=>?_) fun c2 h=>?_
 ·cases h;exact rq hC [.z (.nat 20)] [6,7,19] [(6,ms 20 1 1 rI []),(7,vB false)] [(20,some (ar 3 1 1 rI []))] [(20,true)] (xR hC 6 20 (ms 0 1 1 rI []) (ar 3 1 1 rI []))
 refine qk ?_;obtain⟨x5,hx5,h⟩:=bd h;refine rq hC [.z (.nat 20),oA (dY rI hx5),oI [],oI m] [8,20,21,22] [(8,ms 20 2 1 rI x5)] [(20,some (ar 3 2 1 rI x5))] [(20,true)] ?_;obtain⟨x6,hx6,x7,hx7,h⟩:=gG h;cases h;exact rq hC [oC [20] [] (aCT G 2 hx6),.z (.len 8 (x6.map rI).length),oQ (aAA rI hx7)] [8,23,24,25,26] [(8,ms 20 2 1 rI x6)] [(20,some (ar 3 2 1 rI x6))] [(20,true)] (aE hC [6,7,27] [(6,ms 20 2 1 rI x6),(7,vB true)] (xR hC 6 20 (ms 0 1 1 rI x6) (ar 3 1 1 rI x6)))
theorem Z1{nest}{p}{r}(h:qQ n nest p=some r):PQ G 94 [vM aH nest,vM rI p] (vB r):=by
 refine pq aQ Tryz.func94 rfl fun w X hC=>bC hC [4] (qs (vj h (fun x_=>cP [(0,vM aH nest),(1,vM rI p),(23,vB x_)]) (fun j1 h=>?_) fun x4 h=>?_))
 ·obtain⟨x2,hx2,h⟩:=bd h;refine bA h (fun c1 h=>?_) fun c1 h=>bK hC ([oV (iR G hx2)]++rT 4 c1++sT 6) (fr 9 15) [(23,vB true)] (lE h);obtain⟨x3,hx3,h⟩:=bd h;exact bA h (fun c2 h=>bK hC [oV (iR G hx2),oF c1,oF c1,oV (pR G hx3),oF c1,oF c1,oF c2,oF c2,oN rI p,oF c2,oF c2,oN aH nest,oF c2,oF c2] (fr 9 15) [(23,vB (!decide ((p.length:Int)=(nest.length:Int))))] (lE h)) fun c2 h=>bK hC ([oV (iR G hx2),oF c1,oF c1,oV (pR G hx3),oF c1,oF c1]++rT 6 c2) (fr 9 15) [(23,vB true)] (lE h)
 refine aZ h (fun c3 h=>?_) fun c3 h=>?_
 ·cases h;exact aE hC [4] [(4,vB false)] zr
 refine qk (qs (aU hC [oN aH nest] [24,25,26] [(24,vM aH nest),(25,vI (nest.length:Int)),(26,vI 0)] (qb (gF h (fun x_=>cP [(1,vM rI p),(24,vM aH nest),(25,vI (nest.length:Int)),(26,vI x_)]) lS ?_))));rintro again6 x5 h;refine aE hC [27] [(27,vK x5 nest)] (S3 h (fun c4 h=>?_) fun c4 h=>?_)
 ·refine qk (eG ?_);obtain⟨x7,hx7,h⟩:=bd h;refine rq hC [oR aH hx7,.z (.nat 20)] [5,6,28,29,30] [(5,vI x5),(6,V.ref 20 0)] [(20,some (E.cells (q8 x7)))] [(20,true)] (qs ?_);obtain⟨x8,hx8,x9,hx9,h⟩:=gG h;refine nE hC cG [oA (aBN rI hx8),oI p,oV (q7 G hx9)] [7,8,31,32,33,34,35,36,37,38] [(7,vI x9.1),(8,vI x9.2)] (vj h (fun x_=>iE [(1,vM rI p),(24,vM aH nest),(25,vI (nest.length:Int)),(26,vI x5),(52,vB x_)] [(20,E.cells (q8 x7))] [20]) (fun j10 h=>?_) fun x12 h=>?_)
  ·obtain⟨x11,hx11,h⟩:=bd h;exact bA h (fun c5 h=>bK hC ([oR rI hx11]++rF 3 c5++[oR rI hx11]++rF 4 c5) (fr 39 14) [(52,vD (x9.2≤x11))] (lE h)) fun c5 h=>bK hC ([oR rI hx11]++rT 7 c5) (fr 39 14) [(52,vB true)] (lE h)
  refine aZ h (fun c6 h=>?_) fun c6 h=>qk (bG hC [26,53] [(26,vI (wr (x5+1)))] (lE h));cases h;exact aE hC [4] [(4,vB false)] zr
 cases h;exact d4 (aE hC [4] [(4,vB true)] zr)
theorem n8{p}{x}{r}(h:dJ n p x=some r):PQ G 59 [V.agg (fP p),V.agg (oP x)] (vB r):=by
 refine pq aQ Tryz.func59 rfl fun w X hC=>aU hC [.z (.b (true)),.z (.b (true))] [2,3,4] [(2,V.tp (bZ p)),(3,V.tp (iZ x))] (vj h (fun x_=>cP [(4,vB x_)]) (fun j1 h=>?_) fun x6 h=>?_)
 ·obtain⟨x2,hx2,h⟩:=bd h;refine bA h (fun c1 h=>nE hC cG ([oN aJ p.parts,oV (aY G hx2)]++rF 13 c1++sF 11) (fr 4 34) [(4,vB false)] (lE h)) fun c1 h=>?_;obtain⟨x3,hx3,x4,hx4,h⟩:=gG h;refine bA h (fun c2 h=>nE hC cG ([oN aJ p.parts,oV (aY G hx2)]++rT 7 c1++[oR aJ hx3]++rT 3 c1++[oN aG x3.body,oT c1,oT c1,oV (aY G hx4),oT c1]++rF 11 c2) (fr 4 34) [(4,vB false)] (lE h)) fun c2 h=>?_;obtain⟨x5,hx5,h⟩:=bd h;exact nE hC cG ([oN aJ p.parts,oV (aY G hx2)]++rT 7 c1++[oR aJ hx3]++rT 3 c1++[oN aG x3.body,oT c1,oT c1,oV (aY G hx4),oT c1]++rT 5 c2++[oR aJ hx3]++rT 5 c2++[oV (Z1 G hx5),oT c2]) (fr 4 34) [(4,vB x5)] (lE h)
 obtain rfl:=so h;exact zr
theorem xN{p}{m}{x}{r}(h:eD n p m x=some r):VQ G 30 [] [V.agg (fP p),vM rI m,V.agg (oP x)] (V.tup [ms 0 1 1 rI r.1,vB r.2]) [ar 3 1 1 rI r.1]:=by
 refine vq aQ Tryz.func30 rfl fun w X β0 hC hg=>aU hC [.z (.b (true)),.z (.b (true))] [3,5,6,7] [(3,V.tp (bZ p)),(5,V.tp (iZ x))] (qs (vj h (fun x_=>cP [(1,vM rI m),(3,V.tp (bZ p)),(5,V.tp (iZ x)),(18,vB x_)]) (fun j1 h=>?_) fun x4 h=>?_))
 ·obtain⟨x2,hx2,h⟩:=bd h;refine bA h (fun c1 h=>?_) fun c1 h=>bK hC ([oV (oO G hx2)]++rT 5 c1) (fr 9 10) [(18,vB true)] (lE h);obtain⟨x3,hx3,h⟩:=bd h;exact bK hC ([oV (oO G hx2)]++rF 3 c1++[oV (n8 G hx3),oF c1,oF c1]) (fr 9 10) [(18,vB (!x3))] (lE h)
 refine aZ h (fun c2 h=>?_) fun c2 h=>?_
 ·cases h;exact aE hC [6,7] [(6,eP),(7,vB false)] (qw (lk hC [.grow 6 0 3] [6] [(6,ms 0 1 1 rI [])] [(0,some (ar 3 1 1 rI []))] [(0,true)]) zw)
 refine qk ?_;obtain⟨x5,hx5,h⟩:=bd h;refine rq hC [oC [] [20] (G.clone m hx5)] [8,19,20] [(8,ms 20 1 1 rI x5)] [(20,some (ar 3 1 1 rI x5))] [(20,true)] ?_;obtain⟨x6,hx6,x7,hx7,h⟩:=gG h;cases h;exact rq hC [oC [20] [] (C5 G 1 hx6),.z (.len 8 (x6.map rI).length),oQ (aAA rI hx7)] [8,21,22,23,24] [(8,ms 20 1 1 rI x6)] [(20,some (ar 3 1 1 rI x6))] [(20,true)] (aE hC [6,7,25] [(6,ms 20 1 1 rI x6),(7,vB true)] (xR hC 6 20 (ms 0 1 1 rI x6) (ar 3 1 1 rI x6)))
theorem B8{a}{b}{r}(h:jQ n a b=some r):PQ G 31 [V.agg (oP a),V.agg (oP b)] (vB r):=by
 refine pq aQ Tryz.func31 rfl fun w X hC=>aU hC [.z (.b (true)),.z (.b (true))] [2,3,4] [(2,V.tp (iZ a)),(3,V.tp (iZ b))] (qs (aE hC (fr 5 5) [(9,vB (!decide (a.part=b.part)))] (aZ h (fun c1 h=>?_) fun c1 h=>?_)))
 ·cases h;exact aE hC [4] [(4,vB false)] zr
 refine qk (qs (aE hC (fr 10 5) [(14,vB (!decide (a.stmt=b.stmt)))] (aZ h (fun c2 h=>?_) fun c2 h=>?_)))
 ·cases h;exact aE hC [4] [(4,vB false)] zr
 refine qk (qs ?_);obtain⟨x1,hx1,h⟩:=bd h;refine aU hC [oV (dO G hx1)] (fr 15 6) [(20,vB (!x1))] (aZ h (fun c3 h=>?_) fun c3 h=>?_)
 ·cases h;exact aE hC [4] [(4,vB false)] zr
 cases h;exact qk (aE hC [4] [(4,vB true)] zr)
end Go.Lift
