/- The walks: the code computes what the plain functions say. -/
import Derived.Test.YtcihigfifglboaaGreatWModels
import Derived.Test.YtcihigfifglboaaGreatWWalks2
set_option maxRecDepth 10000
set_option linter.unusedVariables false
namespace Go.Lift
open Go Go.Proofs
variable (G:GS) {n:Nat}
theorem aBp{a}{b}{r}(h:sG n a b=some r):PQ G 171 [V.agg (jH a),V.agg (jH b)] (vB r):=by
 refine pq aR Tryz.func171 rfl fun w X hC=>aU hC [.z (.b (true)),.z (.b (true))] [2,3,4] [(2,V.tp (n9 a)),(3,V.tp (n9 b))] (qs ?_);obtain⟨x1,hx1,h⟩:=bd h;refine aU hC [oV (tX G hx1)] (fr 5 6) [(10,vB (!x1))] (aX h (fun c1 h=>?_) fun c1 h=>?_)
 ·cases h;exact aE hC [4] [(4,vB false)] zr
 refine qk (qs ?_);obtain⟨x2,hx2,h⟩:=bd h;refine aU hC [oV (aBs G n a.value b.value hx2)] (fr 11 6) [(16,vB (!x2))] (aX h (fun c2 h=>?_) fun c2 h=>?_)
 ·cases h;exact aE hC [4] [(4,vB false)] zr
 cases h;exact qk (aE hC [4] [(4,vB true)] zr)
theorem Y3{a}{b}{r}(h:uT n a b=some r):PQ G 127 [vM aG a,vM aG b] (vB r):=by
 refine pq aR Tryz.func127 rfl fun w X hC=>bC hC [4] (qs (aU hC [oN aG a,oN aG b] (fr 6 5) [(10,vB (!decide ((a.length:Int)=(b.length:Int))))] (aX h (fun c1 h=>?_) fun c1 h=>?_)))
 ·cases h;exact aE hC [4] [(4,vB false)] zr
 refine qk (qs (aE hC [5] [(5,vI 0)] (qb (gY h (fun x_=>dA [(0,vM aG a),(1,vM aG b),(5,vI x_)]) lS ?_))));rintro again2 x1 h;refine qs (aU hC [oN aG a] (fr 11 4) [(14,vK x1 a)] (aX h (fun c2 h=>?_) fun c2 h=>?_))
 ·refine qk (dX (qs ?_));obtain⟨x3,hx3,x4,hx4,x5,hx5,h⟩:=wF h;refine pI hC dB [oR aG hx3,oR aG hx4,oV (aBp G hx5)] (fr 17 10) [(26,vB (!x5))] (aX h (fun c3 h=>?_) fun c3 h=>qk (bE hC [5,15,16] [(5,vI (wr (x1+1)))] (lE h)));cases h;exact aE hC [4] [(4,vB false)] zr
 cases h;exact dT (aE hC [4] [(4,vB true)] zr)
theorem aBq{a}{b}{r}(h:sH n a b=some r):PQ G 82 [V.agg (Z7 a),V.agg (Z7 b)] (vB r):=by
 refine pq aR Tryz.func82 rfl fun w X hC=>aU hC [.z (.b (true)),.z (.b (true))] [2,3,4] [(2,V.tp (jG a)),(3,V.tp (jG b))] (qs ?_);obtain⟨x1,hx1,h⟩:=bd h;refine aU hC [oV (Y5 G hx1)] (fr 5 6) [(10,vB (!x1))] (aX h (fun c1 h=>?_) fun c1 h=>?_)
 ·cases h;exact aE hC [4] [(4,vB false)] zr
 refine qk (qs ?_);obtain⟨x2,hx2,h⟩:=bd h;refine aU hC [oV (Y3 G hx2)] (fr 11 6) [(16,vB (!x2))] (aX h (fun c2 h=>?_) fun c2 h=>?_)
 ·cases h;exact aE hC [4] [(4,vB false)] zr
 cases h;exact qk (aE hC [4] [(4,vB true)] zr)
theorem Y4{a}{b}{r}(h:uU n a b=some r):PQ G 38 [vM aJ a,vM aJ b] (vB r):=by
 refine pq aR Tryz.func38 rfl fun w X hC=>bC hC [4] (qs (aU hC [oN aJ a,oN aJ b] (fr 6 5) [(10,vB (!decide ((a.length:Int)=(b.length:Int))))] (aX h (fun c1 h=>?_) fun c1 h=>?_)))
 ·cases h;exact aE hC [4] [(4,vB false)] zr
 refine qk (qs (aE hC [5] [(5,vI 0)] (qb (gY h (fun x_=>dA [(0,vM aJ a),(1,vM aJ b),(5,vI x_)]) lS ?_))));rintro again2 x1 h;refine qs (aU hC [oN aJ a] (fr 11 4) [(14,vK x1 a)] (aX h (fun c2 h=>?_) fun c2 h=>?_))
 ·refine qk (dX (qs ?_));obtain⟨x3,hx3,x4,hx4,x5,hx5,h⟩:=wF h;refine pI hC dB [oR aJ hx3,oR aJ hx4,oV (aBq G hx5)] (fr 17 10) [(26,vB (!x5))] (aX h (fun c3 h=>?_) fun c3 h=>qk (bE hC [5,15,16] [(5,vI (wr (x1+1)))] (lE h)));cases h;exact aE hC [4] [(4,vB false)] zr
 cases h;exact dT (aE hC [4] [(4,vB true)] zr)
theorem G1{a}{b}{r}(h:lY n a b=some r):PQ G 13 [V.agg (eL a),V.agg (eL b)] (vB r):=by
 refine pq aR Tryz.func13 rfl fun w X hC=>aU hC [.z (.b (true)),.z (.b (true))] [2,3,4] [(2,V.tp (bO a)),(3,V.tp (bO b))] (qs ?_);obtain⟨x1,hx1,h⟩:=bd h;refine aU hC [oV (R4 G hx1)] (fr 5 6) [(10,vB (!x1))] (aX h (fun c1 h=>?_) fun c1 h=>?_)
 ·cases h;exact aE hC [4] [(4,vB false)] zr
 refine qk (qs ?_);obtain⟨x2,hx2,h⟩:=bd h;refine aU hC [oV (Y4 G hx2)] (fr 11 6) [(16,vB (!x2))] (aX h (fun c2 h=>?_) fun c2 h=>?_)
 ·cases h;exact aE hC [4] [(4,vB false)] zr
 cases h;exact qk (aE hC [4] [(4,vB true)] zr)
theorem jX{k}{r}(h:eS n k=some r):PQ G 83 [vI k] (vS r):=by
 refine pq aR Tryz.func83 rfl fun w X hC=>bC hC [2] (qs (aE hC [4,5] [(5,vD (k≤0))] (aX h (fun c1 h=>?_) fun c1 h=>?_)))
 ·obtain rfl:=so h;exact aE hC [2] [(2,vS [109,48])] zr
 refine qk (aE hC [3] [(3,vS [])] (dX (gY h (fun x_=>dA [(0,vI x_.1),(3,vS x_.2)]) lS ?_)));rintro again3 ⟨x1,x2⟩ h;refine qs (aE hC [6,7] [(7,vD ((0:Int)<x1))] (aX h (fun c2 h=>?_) fun c2 h=>?_))
 ·refine qk (qb ?_);obtain⟨x4,hx4,h⟩:=bd h;exact aU hC [.z (.y (UInt8.ofInt (wr (48+(Int.tmod x1 10))))),.z (.int 0),.z (.str [UInt8.ofInt (wr (48+(Int.tmod x1 10)))]),oQ (show(10:Int)≠0 by decide),oQ (Eq.refl (UInt8.ofInt (wr (48+(Int.tmod x1 10))))),oQ (Eq.refl (List.map kD [UInt8.ofInt (wr (48+(Int.tmod x1 10)))])),oS hx4] [3,8,9,10,11,12,13,14,15] [(3,vS x4)] (bL hC [oQ (show(10:Int)≠0 by decide)] [0,16,17] [(0,vI (wr (Int.tdiv x1 10)))] (lE h))
 refine dT ?_;obtain⟨x5,hx5,h⟩:=bd h;obtain rfl:=so h;exact aU hC [oS hx5] [2,18,19] [(2,vS x5)] zr
theorem Y8{p}{r}(h:qA n p=some r):PQ G 86 [V.agg (eL p)] (vI r):=by
 refine pq aR Tryz.func86 rfl fun w X hC=>aU hC [.z (.b (true))] [1,2] [(1,V.tp (bO p))] (aE hC [3] [(3,vI 0)] (qs (aE hC [4] [(4,vI 0)] (qb (gY h (fun x_=>dA [(1,V.tp (bO p)),(3,vI x_.1),(4,vI x_.2)]) lS ?_)))));rintro again3 ⟨x1,x2⟩ h;refine qs (aU hC [oN aN p.arrays] (fr 5 5) [(9,vK x2 p.arrays)] (aX h (fun c1 h=>?_) fun c1 h=>?_))
 ·refine qk (dX ?_);obtain⟨x4,hx4,x5,hx5,h⟩:=gH h;exact bL hC [oR aN hx4,oV (B9 G hx5)] [3,12,13,14,15,16,17,18,19] [(3,vI (wr (x1+x5)))] (bE hC [4,10,11] [(4,vI (wr (x2+1)))] (lE h))
 obtain rfl:=so h;exact dT (aE hC [2,20] [(2,vI x1)] zr)
theorem oJ{p}{m}{r}(h:iM n p m=some r):PQ G 41 [V.agg (eL p),vM rI m] (vB r):=by
 refine pq aR Tryz.func41 rfl fun w X hC=>aU hC [.z (.b (true))] [2,4] [(2,V.tp (bO p))] (qs (aE hC [5] [(5,vI 0)] (qb (gY h (fun x_=>dA [(1,vM rI m),(2,V.tp (bO p)),(5,vI x_)]) lS ?_))));rintro again2 x1 h;refine qs (aU hC [oN rI m] (fr 6 4) [(9,vK x1 m)] (aX h (fun c1 h=>?_) fun c1 h=>?_))
 ·refine qk (dX (vj h (fun x_=>dA [(1,vM rI m),(2,V.tp (bO p)),(5,vI x1),(23,vB x_)]) (fun j3 h=>?_) fun x5 h=>?_))
  ·obtain⟨x4,hx4,h⟩:=bd h;exact aZ h (fun c2 h=>bL hC ([oR rI hx4]++rF 3 c2++[oR rI hx4]++rF 3 c2) (fr 12 12) [(23,vD ((999:Int)<x4))] (lE h)) fun c2 h=>bL hC ([oR rI hx4]++rT 6 c2) (fr 12 12) [(23,vB true)] (lE h)
  refine aX h (fun c3 h=>?_) fun c3 h=>qk (bE hC [5,10,11] [(5,vI (wr (x1+1)))] (lE h));obtain rfl:=so h;exact aE hC [4] [(4,vB false)] zr
 refine dT (vj h (fun x_=>dA [(4,vB x_)]) (fun j6 h=>?_) fun x9 h=>?_)
 ·obtain⟨x7,hx7,h⟩:=bd h;refine aZ h (fun c4 h=>bL hC ([oV (fK G hx7)]++rF 6 c4) [4,24,25,26,27,28,29,30,31,32] [(4,vB false)] (lE h)) fun c4 h=>?_;obtain⟨x8,hx8,h⟩:=bd h;exact bL hC [oV (fK G hx7),oT c4,oT c4,oN rI m,oT c4,oT c4,oV (Y8 G hx8),oT c4,oT c4] [4,24,25,26,27,28,29,30,31,32] [(4,vD ((m.length:Int)=x8))] (lE h)
 obtain rfl:=so h;exact zr
theorem oH{p}{r}(h:fT n p=some r):VQ G 42 [] [V.agg (eL p)] (ms 0 1 3 aY r) [ar 72 1 3 aY r]:=by
 refine vq aR Tryz.func42 rfl fun w X β0 hC hg=>aU hC [.z (.b (true))] [1,2] [(1,V.tp (bO p))] (rq hC [.z (.nat 20)] [3,8] [(3,ms 20 1 3 aY [])] [(20,some (ar 72 1 3 aY []))] [(20,true)] (qs (aE hC [4] [(4,vI 0)] (qb (yH h (fun x_ g_=>f8 [(1,V.tp (bO p)),(3,ms 20 g_ 3 aY x_.1),(4,vI x_.2)] [(20,ar 72 g_ 3 aY x_.1)] [20]) 1 (lS) ?_)))));rintro again4 ⟨x1,x2⟩ g3 h;refine qs (aU hC [oN aJ p.parts] (fr 9 5) [(13,vK x2 p.parts)] (aX h (fun c1 h=>?_) fun c1 h=>?_))
 ·refine qk (dX ?_);obtain⟨x5,hx5,x6,hx6,h⟩:=gH h;refine rq hC [.z (.nat 21),oR aJ hx5,oC [21] [] (tZ G n [] 1 x5.nest [] hx6)] [5,16,17,18,19,20,21,22,23] [(5,ms 21 2 1 (rL rI) x6)] [(21,some (ar 39 2 1 (rL rI) x6))] [(21,true),(21,true)] (aE hC [6] [(6,vI 0)] (qb (yH h (fun x_ g_=>f8 [(1,V.tp (bO p)),(3,ms 20 g_ 3 aY x_.1),(4,vI x2),(5,ms 21 2 1 (rL rI) x6),(6,vI x_.2)] [(20,ar 72 g_ 3 aY x_.1),(21,ar 39 2 1 (rL rI) x6)] [20,21]) g3 (lS) ?_)));rintro again10 ⟨x7,x8⟩ g9 h;refine qs (aU hC [oN (rL rI) x6] (fr 24 4) [(27,vK x8 x6)] (aX h (fun c2 h=>?_) fun c2 h=>dT (bE hC [4,14,15] [(4,vI (wr (x2+1)))] ⟨(x7,wr (x2+1)),g9,h,lS⟩)));refine qk (dX (aE hC [7] [(7,vI 0)] (qb (yH h (fun x_ g_=>f8 [(1,V.tp (bO p)),(3,ms 20 g_ 3 aY x_.1),(4,vI x2),(5,ms 21 2 1 (rL rI) x6),(6,vI x8),(7,vI x_.2)] [(20,ar 72 g_ 3 aY x_.1),(21,ar 39 2 1 (rL rI) x6)] [20,21]) g9 (lS) ?_))));rintro again14 ⟨x11,x12⟩ g13 h;refine qs (aU hC [oR aJ hx5,oN aG x5.body] (fr 30 9) [(38,vK x12 x5.body)] (aX h (fun c3 h=>?_) fun c3 h=>dT (bE hC [6,28,29] [(6,vI (wr (x8+1)))] ⟨(x11,wr (x8+1)),g13,h,lS⟩)));refine qk (dX ?_);obtain⟨x15,hx15,x16,hx16,x17,hx17,h⟩:=wF h;exact rk hC [.z (.nat 22),oQ (lV (rL rI) hx15),oX (rL rI) hx15,oA (dJ rI hx16),.z (.at 4),.z (.fz 22 [49] []),.z (.int 0),oI [],oI x15,oA (dJ aY hx17),oM 3 qH x11,oM 3 qH [(⟨x2,x12,x16⟩:Inst)]] [3,41,42,43,44,45,46,47,48,49,50,51,52] [(3,ms 20 (g13+1) 3 aY x17)] [(22,none),(20,some (ar 72 (g13+1) 3 aY x17))] [(22,true)] (bE hC [7,39,40] [(7,vI (wr (x12+1)))] ⟨(x17,wr (x12+1)),(g13+1),h,lS⟩)
 obtain rfl:=so h;exact dT (aE hC [2,53] [(2,ms 20 g3 3 aY x1)] (xR hC 2 20 (ms 0 1 3 aY x1) (ar 72 1 3 aY x1)))
theorem nW{n_a0}{r}(h:kX n n_a0=some r):PQ G 132 [vI n_a0] (vI r):=by
 refine pq aR Tryz.func132 rfl fun w X hC=>bC hC [2] (aU hC [oQ (show(1000:Int)≠0 by decide)] [0,3,4] [(0,vI (Int.tmod n_a0 1000))] (qs (aE hC [5,6] [(6,vD (Int.tmod n_a0 1000<0))] (aX h (fun c1 h=>?_) fun c1 h=>?_))))
 ·cases h;exact aE hC [2,7,8,9] [(2,vI (wr ((wr ((Int.tmod n_a0 1000)+999))+1)))] zr
 cases h;exact qk (aE hC [2,10] [(2,vI (Int.tmod n_a0 1000))] zr)
theorem aBu(G:GS): ∀(n:Nat) (list:List Arr) (m:List Int) (e:Expr) (point:List Int) {r:Int} (h:s_l5Eval n list m e point=some r),PQ G 88 [vM aN list,vM rI m,V.agg (jA e),vM rI point] (vI r):=by
 intro n;induction n with
 |zero=>intro list m e point r h;rw [s_l5Eval.eq_def] at h;cases h
 |succ n ih=>
  intro list m e point r h;rw [s_l5Eval.eq_def] at h;dsimp only at h;refine pq aR Tryz.func88 rfl fun w X hC=>aU hC [.z (.b (true))] [6,8] [(6,V.tp (fO e))] (qs (aE hC [11,12] [(12,vI e.kind)] (qb (aE hC [13,14] [(13,vD (e.kind=1))] (aX h (fun c1 h=>?_) fun c1 h=>?_)))))
  ·obtain rfl:=so h;exact aE hC [8,15,16] [(8,vI e.num)] zr
  refine aE hC [17,18] [(17,vD (e.kind=2))] (aX h (fun c2 h=>?_) fun c2 h=>?_)
  ·obtain⟨x1,hx1,x2,hx2,h⟩:=gH h;obtain rfl:=so h;exact aU hC [oV (iI G hx1),oV (nW G hx2)] [8,19,20,21,22,23] [(8,vI x2)] zr
  refine aE hC [24,25] [(24,vD (e.kind=3))] (aX h (fun c3 h=>?_) fun c3 h=>?_)
  ·obtain⟨x3,hx3,x4,hx4,h⟩:=gH h;obtain rfl:=so h;exact aU hC [oV (nX G hx3),oR rI hx4] [8,26,27,28,29,30,31,32,33] [(8,vI x4)] zr
  refine qk ?_;obtain⟨x5,hx5,x6,hx6,h⟩:=gH h;refine aU hC [.z (.row (bI x5)),oQ (dY aC hx5 (aL x5)),oV (ih list m x5 point hx6)] [9,34,35,36,37,38,39,40,41] [(9,vI x6)] ?_;obtain⟨x7,hx7,x8,hx8,h⟩:=gH h;refine aU hC [.z (.row (bI x7)),oQ (dY aC hx7 (aL x7)),oV (ih list m x7 point hx8)] [10,42,43,44,45,46,47,48,49] [(10,vI x8)] (qs (aE hC [50,51] [(51,vI e.kind)] (qb (aE hC [52,53] [(52,vD (e.kind=4))] (aX h (fun c4 h=>?_) fun c4 h=>?_)))))
  ·obtain⟨x9,hx9,h⟩:=bd h;obtain rfl:=so h;exact aU hC [oV (nW G hx9)] [8,54,55,56,57] [(8,vI x9)] zr
  refine aE hC [58,59] [(58,vD (e.kind=5))] (aX h (fun c5 h=>?_) fun c5 h=>?_)
  ·obtain⟨x10,hx10,h⟩:=bd h;obtain rfl:=so h;exact aU hC [oV (nW G hx10)] [8,60,61,62,63] [(8,vI x10)] zr
  refine qk ?_;obtain⟨x11,hx11,h⟩:=bd h;obtain rfl:=so h;exact aU hC [oV (nW G hx11)] [8,64,65,66,67] [(8,vI x11)] zr
theorem aC0{p}{m}(mG:Nat){x}{r}(h:xM n p m x=some r):VQ G 43 [ar 3 mG 1 rI m] [V.agg (eL p),ms 0 mG 1 rI m,V.agg (aFc x)] (V.tup []) [ar 3 mG 1 rI r]:=by refine vq aR Tryz.func43 rfl fun w X β0 hC hg=>aU hC [.z (.b (true)),.z (.b (true))] [3,5] [(3,V.tp (bO p)),(5,V.tp (aDW x))] (qs ?_);obtain⟨x1,hx1,x2,hx2,h⟩:=gH h;refine dk hC dB [oR aJ hx1,oR aG hx2,.z (.nat 20)] (fr 6 12) [(6,V.ref 20 0)] [(20,some (E.cells (jH x2)))] [(20,true)] ?_;obtain⟨x3,hx3,x4,hx4,x5,hx5,h⟩:=wF h;obtain⟨x6,hx6,h⟩:=bd h;obtain rfl:=so h;exact dkt hC dB [oV (nX G hx3),.z (.b (true)),oV (aBu G n p.arrays m x2.value x.point hx4),oQ (lV rI hx5),oX rI hx5,.z (.rows (x6.map rI)),oQ (str rI hx6)] [1,18,19,20,21,22,23,24,25,26,27,28,29,30,31,32,33,34] [(0,some (ar 3 mG 1 rI x6))] [] eW
theorem mJ{p}{r}(h:jD n p=some r):PQ G 90 [V.agg (eL p)] (vI r):=by
 refine pq aR Tryz.func90 rfl fun w X hC=>aU hC [.z (.b (true))] [1,2] [(1,V.tp (bO p))] (aE hC [3] [(3,vI 0)] (qs (aU hC [oN aN p.arrays] (fr 6 4) [(7,vM aN p.arrays),(8,vI (p.arrays.length:Int)),(9,vI 0)] (qb (gY h (fun x_=>dA [(3,vI x_.1),(7,vM aN p.arrays),(8,vI (p.arrays.length:Int)),(9,vI x_.2)]) lS ?_)))));rintro again3 ⟨x1,x2⟩ h;refine aE hC [10] [(10,vK x2 p.arrays)] (N5 h (fun c1 h=>?_) fun c1 h=>?_)
 ·refine qk (dX ?_);obtain⟨x4,hx4,h⟩:=bd h;refine rq hC [oR aN hx4,.z (.nat 20)] [5,11,12] [(5,V.ref 20 0)] [(20,sc [vS x4.name,vM rI x4.dims])] [(20,true)] ?_;obtain⟨x5,hx5,h⟩:=bd h;exact bL hC [oV (pQ G hx5)] [3,13,14,15,16] [(3,vI (wr (x1+x5)))] (bE hC [9,17] [(9,vI (wr (x2+1)))] (lE h))
 obtain rfl:=so h;exact dT (aE hC [2,18] [(2,vI x1)] zr)
theorem uA(G:GS)(n:Nat)(n_a0:Int){r:Bool}(h:d9 n n_a0=some r):PQ G 92 [vI n_a0] (vB r):=by refine pq aR Tryz.func92 rfl fun w X hC=>bC hC [2] ?_;obtain⟨x1,hx1,h⟩:=bd h;cases h;exact aU hC [oV (bB G hx1)] (fr 2 4) [(2,vB (!x1))] zr
theorem oK{p}{m}{r}(h:iN n p m=some r):PQ G 44 [V.agg (eL p),vM rI m] (vB r):=by
 refine pq aR Tryz.func44 rfl fun w X hC=>aU hC [.z (.b (true))] [2,4] [(2,V.tp (bO p))] (vj h (fun x_=>dA [(4,vB x_)]) (fun j1 h=>?_) fun x5 h=>?_)
 ·obtain⟨x2,hx2,h⟩:=bd h;refine aZ h (fun c1 h=>bL hC ([oV (iJ G hx2)]++rF 6 c1++sF 4) (fr 4 15) [(4,vB false)] (lE h)) fun c1 h=>?_;obtain⟨x3,hx3,h⟩:=bd h;refine aZ h (fun c2 h=>bL hC ([oV (iJ G hx2),oT c1,oT c1,oN rI m,oT c1,oT c1,oV (mJ G hx3),oT c1,oT c1]++rF 4 c2) (fr 4 15) [(4,vB false)] (lE h)) fun c2 h=>?_;obtain⟨x4,hx4,h⟩:=bd h;exact bL hC [oV (iJ G hx2),oT c1,oT c1,oN rI m,oT c1,oT c1,oV (mJ G hx3),oT c1,oT c1,oT c2,oT c2,oV (cG G n m 92 (fun q0=>d9 n q0) (fun q0 r h=>uA G n q0 h) hx4),oT c2,oT c2] (fr 4 15) [(4,vB (!x4))] (lE h)
 obtain rfl:=so h;exact zr
theorem pP{p}{r}(h:dZ n p=some r):VQ G 46 [] [V.agg (eL p)] (ms 0 1 3 aY r) [ar 72 1 3 aY r]:=by
 refine vq aR Tryz.func46 rfl fun w X β0 hC hg=>aU hC [.z (.b (true))] [1,2] [(1,V.tp (bO p))] ?_;obtain⟨x1,hx1,h⟩:=bd h;refine rq hC [oC [] [20] (eH G hx1)] (fr 3 7) [(3,ms 20 1 3 aY x1.1),(4,vB x1.2)] [(20,some (ar 72 1 3 aY x1.1))] [(20,true)] (qs (aE hC [10,11] [(11,vB (!x1.2))] (aX h (fun c1 h=>?_) fun c1 h=>?_)))
 ·cases h;exact aE hC [2] [(2,fH)] (qw (lk hC [.grow 2 0 72] [2] [(2,ms 0 1 3 aY [])] [(0,some (ar 72 1 3 aY []))] [(0,true)]) zw)
 cases h;exact qk (aE hC [2,12] [(2,ms 20 1 3 aY x1.1)] (xR hC 2 20 (ms 0 1 3 aY x1.1) (ar 72 1 3 aY x1.1)))
theorem wE{p}{x}{r}(h:gU n p x=some r):PQ G 94 [V.agg (eL p),V.agg (aFc x)] (V.agg (jH r)):=by refine pq aR Tryz.func94 rfl fun w X hC=>rq hC [.z (.b (true)),.z (.b (true)),.z (.nat 20)] [2,3,4] [(2,V.tp (bO p)),(3,V.tp (aDW x)),(4,V.ref 20 0)] [(20,sc [vS [],fH,vI 0,vI 0,fH,vI 0,vS [],fH,fH])] [(20,true)] (qs ?_);obtain⟨x1,hx1,x2,hx2,h⟩:=gH h;obtain rfl:=so h;exact dkt hC dB [oR aJ hx1,oR aG hx2] (fr 5 11) [(20,some (E.cells (jH x2)))] [] zr
theorem n1{n_a0}{r}(h:lH n n_a0=some r):PQ G 136 [vI n_a0] (vI r):=by refine pq aR Tryz.func136 rfl fun w X hC=>?_;cases h;exact bC hC [2] (aU hC [oQ (show(1000:Int)≠0 by decide),oQ (show(1000:Int)≠0 by decide)] (fr 2 6) [(2,vI (Int.tmod (wr ((wr ((Int.tmod n_a0 1000)+999))+1)) 1000))] zr)
theorem t8(G:GS): ∀(n:Nat) (p:Prog) (m:List Int) (e:Expr) (point:List Int) {r:Int} (h:i_Program_value n p m e point=some r),PQ G 95 [V.agg (eL p),vM rI m,V.agg (jA e),vM rI point] (vI r):=by
 intro n;induction n with
 |zero=>intro p m e point r h;rw [i_Program_value.eq_def] at h;cases h
 |succ n ih=>
  intro p m e point r h;rw [i_Program_value.eq_def] at h;dsimp only at h;refine pq aR Tryz.func95 rfl fun w X hC=>aU hC [.z (.b (true)),.z (.b (true))] [4,6,8] [(4,V.tp (bO p)),(6,V.tp (fO e))] (qs (aE hC [11,12] [(12,vI e.kind)] (qb (aE hC [13,14] [(13,vD (e.kind=1))] (aX h (fun c1 h=>?_) fun c1 h=>?_)))))
  ·obtain rfl:=so h;exact aE hC [8,15,16] [(8,vI e.num)] zr
  refine aE hC [17,18] [(17,vD (e.kind=2))] (aX h (fun c2 h=>?_) fun c2 h=>?_)
  ·obtain⟨x1,hx1,x2,hx2,h⟩:=gH h;obtain rfl:=so h;exact aU hC [oV (dE G hx1),oV (n1 G hx2)] [8,19,20,21,22,23] [(8,vI x2)] zr
  refine aE hC [24,25] [(24,vD (e.kind=3))] (aX h (fun c3 h=>?_) fun c3 h=>?_)
  ·obtain⟨x3,hx3,x4,hx4,h⟩:=gH h;obtain rfl:=so h;exact aU hC [oV (dW G hx3),oR rI hx4] [8,26,27,28,29,30,31,32,33] [(8,vI x4)] zr
  refine qk (qs ?_);obtain⟨x5,hx5,x6,hx6,x7,hx7,h⟩:=wF h;obtain⟨x8,hx8,h⟩:=bd h;refine pI hC dB [.z (.row (bI x5)),oQ (dY aC hx5 (aL x5)),oV (ih p m x5 point hx6),.z (.row (bI x7)),oQ (dY aC hx7 (aL x7)),oV (ih p m x7 point hx8)] [9,10,34,35,36,37,38,39,40,41,42,43,44,45,46,47,48,49] [(9,vI x6),(10,vI x8)] (qs (aE hC [50,51] [(51,vI e.kind)] (qb (aE hC [52,53] [(52,vD (e.kind=4))] (aX h (fun c4 h=>?_) fun c4 h=>?_)))))
  ·obtain⟨x9,hx9,h⟩:=bd h;obtain rfl:=so h;exact aU hC [oV (n1 G hx9)] [8,54,55,56,57] [(8,vI x9)] zr
  refine aE hC [58,59] [(58,vD (e.kind=5))] (aX h (fun c5 h=>?_) fun c5 h=>?_)
  ·obtain⟨x10,hx10,h⟩:=bd h;obtain rfl:=so h;exact aU hC [oV (n1 G hx10)] [8,60,61,62,63] [(8,vI x10)] zr
  refine qk ?_;obtain⟨x11,hx11,h⟩:=bd h;obtain rfl:=so h;exact aU hC [oV (n1 G hx11)] [8,64,65,66,67] [(8,vI x11)] zr
theorem C6{p}{m}(mG:Nat){x}{r}(h:jS n p m x=some r):VQ G 47 [ar 3 mG 1 rI m] [V.agg (eL p),ms 0 mG 1 rI m,V.agg (aFc x)] (V.tup []) [ar 3 mG 1 rI r]:=by refine vq aR Tryz.func47 rfl fun w X β0 hC hg=>aU hC [.z (.b (true)),.z (.b (true))] [3,5] [(3,V.tp (bO p)),(5,V.tp (aDW x))] ?_;obtain⟨x1,hx1,h⟩:=bd h;refine rq hC [oV (wE G hx1),.z (.nat 20)] (fr 6 4) [(6,V.ref 20 0)] [(20,some (E.cells (jH x1)))] [(20,true)] ?_;obtain⟨x2,hx2,x3,hx3,x4,hx4,h⟩:=wF h;obtain⟨x5,hx5,h⟩:=bd h;obtain rfl:=so h;exact dkt hC dB [oV (dW G hx2),.z (.b (true)),oV (t8 G n p m x1.value x.point hx3),oQ (lV rI hx4),oX rI hx4,.z (.rows (x5.map rI)),oQ (str rI hx5)] [1,10,11,12,13,14,15,16,17,18,19,20,21,22,23,24] [(0,some (ar 3 mG 1 rI x5))] [] eW
theorem tV{a}{k}{r}(h:kQ n a k=some r):PQ G 22 [vM rI a,vI k] (vI r):=by
 refine pq aR Tryz.func22 rfl fun w X hC=>bC hC [4] (qs (aE hC [5] [(5,vI 0)] (qb (gY h (fun x_=>dA [(0,vM rI a),(1,vI x_.1),(5,vI x_.2)]) lS ?_))));rintro again3 ⟨x1,x2⟩ h;refine qs (aU hC [oN rI a] (fr 6 4) [(9,vK x2 a)] (aX h (fun c1 h=>?_) fun c1 h=>?_))
 ·refine qk (dX (qs ?_));obtain⟨x4,hx4,h⟩:=bd h;refine aU hC [oR rI hx4] (fr 12 6) [(17,vB (!decide (x4=x1)))] (aX h (fun c2 h=>?_) fun c2 h=>qk (bE hC [1,18,19] [(1,vI (wr (x1+1)))] (bE hC [5,10,11] [(5,vI (wr (x2+1)))] (lE h))));obtain rfl:=so h;exact aE hC [4] [(4,vI (-1))] zr
 obtain rfl:=so h;exact dT (aE hC [4,20] [(4,vI x1)] zr)
theorem aBt{list}{n_a1}{r}(h:sS n list n_a1=some r):PQ G 97 [vM rI list,vI n_a1] (vB r):=by
 refine pq aR Tryz.func97 rfl fun w X hC=>bC hC [4] ?_;obtain⟨x1,hx1,h⟩:=bd h;refine rq hC [.z (.nat 20),oA (nL rB hx1),oQ (fZ hx1).1] [5,7,8] [(5,ms 20 1 1 rB x1)] [(20,some (ar 4 1 1 rB x1))] [(20,true)] (qs (aE hC [6] [(6,vI 0)] (qb (yH h (fun x_ g_=>f8 [(0,vM rI list),(1,vI n_a1),(5,ms 20 g_ 1 rB x_.1),(6,vI x_.2)] [(20,ar 4 g_ 1 rB x_.1)] [20]) 1 (lS) ?_))));rintro again5 ⟨x2,x3⟩ g4 h;refine qs (aU hC [oN rI list] (fr 9 4) [(12,vK x3 list)] (aX h (fun c1 h=>?_) fun c1 h=>?_))
 ·refine qk (dX (qs (vj h (fun x_=>f8 [(0,vM rI list),(1,vI n_a1),(5,ms 20 g4 1 rB x2),(6,vI x3),(36,vB x_)] [(20,ar 4 g4 1 rB x2)] [20]) (fun j6 h=>?_) fun x9 h=>?_)))
  ·obtain⟨x7,hx7,h⟩:=bd h;refine aZ h (fun c2 h=>?_) fun c2 h=>bL hC ([oR rI hx7]++rT 7 c2++sT 8) (fr 15 22) [(36,vB true)] (lE h);refine aZ h (fun c3 h=>?_) fun c3 h=>bL hC ([oR rI hx7]++rF 3 c2++[oR rI hx7]++rF 4 c2++rT 8 c3) (fr 15 22) [(36,vB true)] (lE h);obtain⟨x8,hx8,h⟩:=bd h;exact bL hC ([oR rI hx7]++rF 3 c2++[oR rI hx7]++rF 4 c2++rF 4 c3++[oR rI hx7,oF c3,oF c3,oQ (lV rB hx8),oF c3,oX rB hx8,oF c3]) (fr 15 22) [(36,vB x8)] (lE h)
  refine aX h (fun c4 h=>?_) fun c4 h=>?_
  ·cases h;exact aE hC [4] [(4,vB false)] zr
  refine qk ?_;obtain⟨x10,hx10,x11,hx11,x12,hx12,h⟩:=wF h;exact rk hC [oR rI hx10,oQ (lV rB hx11),oX rB hx11,.z (.rows (x12.map rB)),.z (.len 5 (x12.map rB).length),oQ (str rB hx12),oQ (qT rB hx12)] [5,37,38,39,40,41,42] [(5,ms 20 g4 1 rB x12)] [(20,some (ar 4 g4 1 rB x12))] [] (bE hC [6,13,14] [(6,vI (wr (x3+1)))] ⟨(x12,wr (x3+1)),g4,h,lS⟩)
 cases h;exact dT (aU hC [oN rI list] [4,43,44,45,46] [(4,vD ((list.length:Int)=n_a1))] zr)
theorem C2{p}{order}{r}(h:jN n p order=some r):PQ G 48 [V.agg (eL p),vM rI order] (vB r):=by
 refine pq aR Tryz.func48 rfl fun w X hC=>aU hC [.z (.b (true))] [2,4] [(2,V.tp (bO p))] (vj h (fun x_=>dA [(4,vB x_)]) (fun j1 h=>?_) fun x5 h=>?_)
 ·obtain⟨x2,hx2,h⟩:=bd h;refine aZ h (fun c1 h=>bL hC ([oV (fK G hx2)]++rF 6 c1) (fr 4 10) [(4,vB false)] (lE h)) fun c1 h=>?_;obtain⟨x3,hx3,x4,hx4,h⟩:=gH h;exact rk hC ([oV (fK G hx2)]++rT 3 c1++[oC [] [20] (oH G hx3),oT c1,oN aY x3,oT c1,oV (aBt G hx4),oT c1]) (fr 4 10) [(4,vB x4)] [(20,some (ar 72 1 3 aY x3))] [(20,true)] (lE h)
 obtain rfl:=so h;exact zr
theorem R5{p}{m}{order}{r}(h:lA n p m order=some r):VQ G 23 [] [V.agg (eL p),vM rI m,vM rI order] (V.tup [ms 0 1 1 rI r.1,vB r.2]) [ar 3 1 1 rI r.1]:=by
 refine vq aR Tryz.func23 rfl fun w X β0 hC hg=>aU hC [.z (.b (true))] [3,6,7] [(3,V.tp (bO p))] (qs (vj h (fun x_=>dA [(1,vM rI m),(2,vM rI order),(3,V.tp (bO p)),(20,vB x_)]) (fun j1 h=>?_) fun x4 h=>?_))
 ·obtain⟨x2,hx2,h⟩:=bd h;refine aZ h (fun c1 h=>?_) fun c1 h=>bL hC ([oV (oJ G hx2)]++rT 5 c1) (fr 11 10) [(20,vB true)] (lE h);obtain⟨x3,hx3,h⟩:=bd h;exact bL hC ([oV (oJ G hx2)]++rF 3 c1++[oV (C2 G hx3),oF c1,oF c1]) (fr 11 10) [(20,vB (!x3))] (lE h)
 refine aX h (fun c2 h=>?_) fun c2 h=>?_
 ·cases h;exact rq hC [.z (.nat 20)] [6,7,21] [(6,ms 20 1 1 rI []),(7,vB false)] [(20,some (ar 3 1 1 rI []))] [(20,true)] (xR hC 6 20 (ms 0 1 1 rI []) (ar 3 1 1 rI []))
 refine qk ?_;obtain⟨x5,hx5,h⟩:=bd h;refine rq hC [.z (.nat 20),oA (dJ rI hx5),oI [],oI m] [8,22,23,24] [(8,ms 20 2 1 rI x5)] [(20,some (ar 3 2 1 rI x5))] [(20,true)] ?_;obtain⟨x6,hx6,h⟩:=bd h;refine rq hC [oC [] [21] (oH G hx6)] [9,25,26] [(9,ms 21 1 3 aY x6)] [(21,some (ar 72 1 3 aY x6))] [(21,true)] (qs (aE hC [10] [(10,vI 0)] (qb (yH h (fun x_ g_=>f8 [(2,vM rI order),(3,V.tp (bO p)),(8,ms 20 g_ 1 rI x_.1),(9,ms 21 1 3 aY x6),(10,vI x_.2)] [(20,ar 3 g_ 1 rI x_.1),(21,ar 72 1 3 aY x6)] [20,21]) 2 (lS) ?_))));rintro again10 ⟨x7,x8⟩ g9 h;refine qs (aU hC [oN rI order] (fr 27 4) [(30,vK x8 order)] (aX h (fun c3 h=>?_) fun c3 h=>?_))
 ·refine qk (dX ?_);obtain⟨x11,hx11,x12,hx12,x13,hx13,h⟩:=wF h;obtain⟨x14,hx14,h⟩:=bd h;exact dkt hC dB [oR rI hx11,oQ (lV aY hx12),oX aY hx12,oC [20] [] (aC0 G g9 hx13)] (fr 33 10) [(20,some (ar 3 g9 1 rI x13))] [(20,true)] (qw (lpP hC [.len 8 (x13.map rI).length] [8] [(8,ms 20 g9 1 rI x13)] [] [] (a1 (aAG rI hx14)) (by kernel_rfl)) (bE hC [10,31,32] [(10,vI (wr (x8+1)))] ⟨(x13,wr (x8+1)),g9,h,lS⟩))
 cases h;exact dT (aE hC [6,7,43] [(6,ms 20 g9 1 rI x7),(7,vB true)] (xR hC 6 20 (ms 0 1 1 rI x7) (ar 3 1 1 rI x7)))
theorem Z5{order}{many}{r}(h:qN n order many=some r):PQ G 98 [vM rI order,vI many] (vB r):=by
 refine pq aR Tryz.func98 rfl fun w X hC=>bC hC [4] ?_;obtain⟨x1,hx1,h⟩:=bd h;refine rq hC [.z (.nat 20),oA (nL rB hx1),oQ (fZ hx1).1] [5,8,9] [(5,ms 20 1 1 rB x1)] [(20,some (ar 4 1 1 rB x1))] [(20,true)] (qs (aU hC [oN rI order] [10,11,12] [(10,vM rI order),(11,vI (order.length:Int)),(12,vI 0)] (qb (yH h (fun x_ g_=>f8 [(0,vM rI order),(1,vI many),(5,ms 20 g_ 1 rB x_.1),(10,vM rI order),(11,vI (order.length:Int)),(12,vI x_.2)] [(20,ar 4 g_ 1 rB x_.1)] [20]) 1 (lS) ?_))));rintro again5 ⟨x2,x3⟩ g4 h;refine aE hC [13] [(13,vK x3 order)] (N5 h (fun c1 h=>?_) fun c1 h=>?_)
 ·refine qk (dX ?_);obtain⟨x6,hx6,h⟩:=bd h;refine aU hC [oR rI hx6] [7,14,15] [(7,vI x6)] (qs (vj h (fun x_=>f8 [(0,vM rI order),(1,vI many),(5,ms 20 g4 1 rB x2),(7,vI x6),(10,vM rI order),(11,vI (order.length:Int)),(12,vI x3),(26,vB x_)] [(20,ar 4 g4 1 rB x2)] [20]) (fun j7 h=>?_) fun x10 h=>?_))
  ·obtain⟨x8,hx8,h⟩:=bd h;refine aZ h (fun c2 h=>?_) fun c2 h=>bL hC ([oV (bB G hx8)]++rT 5 c2) (fr 16 11) [(26,vB true)] (lE h);obtain⟨x9,hx9,h⟩:=bd h;exact bL hC ([oV (bB G hx8)]++rF 3 c2++[oQ (lV rB hx9),oF c2,oX rB hx9,oF c2]) (fr 16 11) [(26,vB x9)] (lE h)
  refine aX h (fun c3 h=>?_) fun c3 h=>?_
  ·cases h;exact aE hC [4] [(4,vB false)] zr
  refine qk ?_;obtain⟨x11,hx11,x12,hx12,h⟩:=gH h;exact rk hC [oQ (lV rB hx11),oX rB hx11,.z (.rows (x12.map rB)),.z (.len 5 (x12.map rB).length),oQ (str rB hx12),oQ (qT rB hx12)] [5,27,28,29] [(5,ms 20 g4 1 rB x12)] [(20,some (ar 4 g4 1 rB x12))] [] (bE hC [12,30] [(12,vI (wr (x3+1)))] ⟨(x12,wr (x3+1)),g4,h,lS⟩)
 cases h;exact dT (aU hC [oN rI order] [4,31,32,33,34] [(4,vD ((order.length:Int)=many))] zr)
theorem C7{p}{order}{r}(h:jT n p order=some r):PQ G 49 [V.agg (eL p),vM rI order] (vB r):=by
 refine pq aR Tryz.func49 rfl fun w X hC=>aU hC [.z (.b (true))] [2,4] [(2,V.tp (bO p))] ?_;obtain⟨x1,hx1,h⟩:=bd h;refine rq hC [oC [] [20] (eH G hx1)] (fr 5 7) [(5,ms 20 1 3 aY x1.1),(6,vB x1.2)] [(20,some (ar 72 1 3 aY x1.1))] [(20,true)] (vj h (fun x_=>f8 [(4,vB x_)] [(20,ar 72 1 3 aY x1.1)] [20]) (fun j2 h=>?_) fun x4 h=>?_)
 ·refine aZ h (fun c1 h=>bL hC (rF 5 c1) [4,12,13,14,15,16,17,18] [(4,vB false)] (lE h)) fun c1 h=>?_;obtain⟨x3,hx3,h⟩:=bd h;exact bL hC (rT 3 c1++[oN aY x1.1,oT c1,oV (Z5 G hx3),oT c1]) [4,12,13,14,15,16,17,18] [(4,vB x3)] (lE h)
 obtain rfl:=so h;exact zr
theorem R7{p}{m}{order}{r}(h:iG n p m order=some r):VQ G 24 [] [V.agg (eL p),vM rI m,vM rI order] (V.tup [ms 0 1 1 rI r.1,vB r.2]) [ar 3 1 1 rI r.1]:=by
 refine vq aR Tryz.func24 rfl fun w X β0 hC hg=>aU hC [.z (.b (true))] [3,6,7] [(3,V.tp (bO p))] (qs (vj h (fun x_=>dA [(1,vM rI m),(2,vM rI order),(3,V.tp (bO p)),(21,vB x_)]) (fun j1 h=>?_) fun x4 h=>?_))
 ·obtain⟨x2,hx2,h⟩:=bd h;refine aZ h (fun c1 h=>?_) fun c1 h=>bL hC ([oV (oK G hx2)]++rT 5 c1) (fr 12 10) [(21,vB true)] (lE h);obtain⟨x3,hx3,h⟩:=bd h;exact bL hC ([oV (oK G hx2)]++rF 3 c1++[oV (C7 G hx3),oF c1,oF c1]) (fr 12 10) [(21,vB (!x3))] (lE h)
 refine aX h (fun c2 h=>?_) fun c2 h=>?_
 ·cases h;exact aE hC [6,7] [(6,fH),(7,vB false)] (qw (lk hC [.grow 6 0 3] [6] [(6,ms 0 1 1 rI [])] [(0,some (ar 3 1 1 rI []))] [(0,true)]) zw)
 refine qk ?_;obtain⟨x5,hx5,h⟩:=bd h;refine rq hC [oC [] [20] (pP G hx5)] [8,22,23] [(8,ms 20 1 3 aY x5)] [(20,some (ar 72 1 3 aY x5))] [(20,true)] ?_;obtain⟨x6,hx6,h⟩:=bd h;refine rq hC [oC [] [21] (G.clone m hx6)] [9,24,25] [(9,ms 21 1 1 rI x6)] [(21,some (ar 3 1 1 rI x6))] [(21,true)] (qs (aU hC [oN rI order] [26,27,28] [(26,vM rI order),(27,vI (order.length:Int)),(28,vI 0)] (qb (yH h (fun x_ g_=>f8 [(3,V.tp (bO p)),(8,ms 20 1 3 aY x5),(9,ms 21 g_ 1 rI x_.1),(26,vM rI order),(27,vI (order.length:Int)),(28,vI x_.2)] [(20,ar 72 1 3 aY x5),(21,ar 3 g_ 1 rI x_.1)] [20,21]) 1 (lS) ?_))));rintro again10 ⟨x7,x8⟩ g9 h;refine aE hC [29] [(29,vK x8 order)] (N5 h (fun c3 h=>?_) fun c3 h=>?_)
 ·refine qk (dX ?_);obtain⟨x11,hx11,h⟩:=bd h;refine aU hC [oR rI hx11] [11,30,31] [(11,vI x11)] ?_;obtain⟨x12,hx12,x13,hx13,x14,hx14,h⟩:=wF h;exact dkt hC dB [oQ (lV aY hx12),oX aY hx12,oC [21] [] (C6 G g9 hx13)] (fr 32 7) [(21,some (ar 3 g9 1 rI x13))] [(21,true)] (qw (lpP hC [.len 9 (x13.map rI).length] [9] [(9,ms 21 g9 1 rI x13)] [] [] (a1 (aAG rI hx14)) (by kernel_rfl)) (bE hC [28,39] [(28,vI (wr (x8+1)))] ⟨(x13,wr (x8+1)),g9,h,lS⟩))
 cases h;exact dT (aE hC [6,7,40] [(6,ms 21 g9 1 rI x7),(7,vB true)] (xR hC 6 21 (ms 0 1 1 rI x7) (ar 3 1 1 rI x7)))
end Go.Lift
