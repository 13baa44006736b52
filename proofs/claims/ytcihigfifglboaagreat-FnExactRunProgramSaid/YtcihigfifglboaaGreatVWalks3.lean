/- The walks: the code computes what the plain functions say. -/
import Derived.Test.YtcihigfifglboaaGreatVModels
import Derived.Test.YtcihigfifglboaaGreatVWalks2
set_option maxRecDepth 10000
set_option linter.unusedVariables false
namespace Go.Lift
open Go Go.Proofs
variable (G:GS) {n:Nat}
theorem tG{a}{b}{r}(h:kK n a b=some r):PQ G 204 [V.agg (eG a),V.agg (eG b)] (vB r):=by
 refine pq aR Tryz.func204 rfl fun w X hC=>aU hC [.z (.b (true)),.z (.b (true))] [2,3,4] [(2,V.tp (cO a)),(3,V.tp (cO b))] (qs (aE hC (fr 5 5) [(9,vB (!decide (a.array=b.array)))] (aX h (fun c1 h=>?_) fun c1 h=>?_)))
 ·cases h;exact aE hC [4] [(4,vB false)] zr
 refine qk (qs ?_);obtain⟨x1,hx1,h⟩:=bd h;refine aU hC [oV (mF G hx1)] (fr 10 6) [(15,vB (!x1))] (aX h (fun c2 h=>?_) fun c2 h=>?_)
 ·cases h;exact aE hC [4] [(4,vB false)] zr
 cases h;exact qk (aE hC [4] [(4,vB true)] zr)
theorem W4(G:GS)(n:Nat)(self:Expr→Expr→Option Bool)(hself: ∀(q0:Expr) (q1:Expr) {r:Bool},self q0 q1=some r→PQ G 205 [V.agg (iY q0),V.agg (iY q1)] (vB r))(a:List Expr)(b:List Expr){r:Bool}(h:uD n self a b=some r):PQ G 223 [vM aC a,vM aC b] (vB r):=by
 refine pq aR Tryz.func223 rfl fun w X hC=>bB hC [4] (qs (aU hC [oN aC a,oN aC b] (fr 6 5) [(10,vB (!decide ((a.length:Int)=(b.length:Int))))] (aX h (fun c1 h=>?_) fun c1 h=>?_)))
 ·cases h;exact aE hC [4] [(4,vB false)] zr
 refine qk (qs (aE hC [5] [(5,vI 0)] (qb (gO h (fun x_=>dA [(0,vM aC a),(1,vM aC b),(5,vI x_)]) lS ?_))));rintro again2 x1 h;refine qs (aU hC [oN aC a] (fr 11 4) [(14,vK x1 a)] (aX h (fun c2 h=>?_) fun c2 h=>?_))
 ·refine qk (d0 (qs ?_));obtain⟨x3,hx3,x4,hx4,x5,hx5,h⟩:=w5 h;refine o9 hC cZ [.z (.row (bI x3)),.z (.row (bI x4)),oQ (dT aC hx3 (aL x3)),oQ (dT aC hx4 (aL x4)),oV (hself x3 x4 hx5)] (fr 17 10) [(26,vB (!x5))] (aX h (fun c3 h=>?_) fun c3 h=>qk (bE hC [5,15,16] [(5,vI (wr (x1+1)))] (lE h)));cases h;exact aE hC [4] [(4,vB false)] zr
 cases h;exact dR (aE hC [4] [(4,vB true)] zr)
theorem aA7(G:GS): ∀(n:Nat) (a:Expr) (b:Expr) {r:Bool} (h:w_eqExpr n a b=some r),PQ G 205 [V.agg (iY a),V.agg (iY b)] (vB r):=by
 intro n;induction n with
 |zero=>intro a b r h;rw [w_eqExpr.eq_def] at h;cases h
 |succ n ih=>
  intro a b r h;rw [w_eqExpr.eq_def] at h;dsimp only at h;refine pq aR Tryz.func205 rfl fun w X hC=>aU hC [.z (.b (true)),.z (.b (true))] [2,3,4] [(2,V.tp (fG a)),(3,V.tp (fG b))] (qs (aE hC (fr 5 5) [(9,vB (!decide (a.kind=b.kind)))] (aX h (fun c1 h=>?_) fun c1 h=>?_)))
  ·cases h;exact aE hC [4] [(4,vB false)] zr
  refine qk (qs (aE hC (fr 10 5) [(14,vB (!decide (a.num=b.num)))] (aX h (fun c2 h=>?_) fun c2 h=>?_)))
  ·cases h;exact aE hC [4] [(4,vB false)] zr
  refine qk (qs ?_);obtain⟨x1,hx1,h⟩:=bd h;refine aU hC [oV (tF G hx1)] (fr 15 6) [(20,vB (!x1))] (aX h (fun c3 h=>?_) fun c3 h=>?_)
  ·cases h;exact aE hC [4] [(4,vB false)] zr
  refine qk (qs ?_);obtain⟨x2,hx2,h⟩:=bd h;refine aU hC [oV (tG G hx2)] (fr 21 6) [(26,vB (!x2))] (aX h (fun c4 h=>?_) fun c4 h=>?_)
  ·cases h;exact aE hC [4] [(4,vB false)] zr
  refine qk (qs ?_);obtain⟨x3,hx3,h⟩:=bd h;refine aU hC [oV (W4 G n (w_eqExpr n) (fun q0 q1 r h=>ih q0 q1 h) a.kids b.kids hx3)] (fr 27 6) [(32,vB (!x3))] (aX h (fun c5 h=>?_) fun c5 h=>?_)
  ·cases h;exact aE hC [4] [(4,vB false)] zr
  cases h;exact qk (aE hC [4] [(4,vB true)] zr)
theorem aA4{a}{b}{r}(h:rS n a b=some r):PQ G 171 [V.agg (jE a),V.agg (jE b)] (vB r):=by
 refine pq aR Tryz.func171 rfl fun w X hC=>aU hC [.z (.b (true)),.z (.b (true))] [2,3,4] [(2,V.tp (nY a)),(3,V.tp (nY b))] (qs ?_);obtain⟨x1,hx1,h⟩:=bd h;refine aU hC [oV (tG G hx1)] (fr 5 6) [(10,vB (!x1))] (aX h (fun c1 h=>?_) fun c1 h=>?_)
 ·cases h;exact aE hC [4] [(4,vB false)] zr
 refine qk (qs ?_);obtain⟨x2,hx2,h⟩:=bd h;refine aU hC [oV (aA7 G n a.value b.value hx2)] (fr 11 6) [(16,vB (!x2))] (aX h (fun c2 h=>?_) fun c2 h=>?_)
 ·cases h;exact aE hC [4] [(4,vB false)] zr
 cases h;exact qk (aE hC [4] [(4,vB true)] zr)
theorem W1{a}{b}{r}(h:uA n a b=some r):PQ G 127 [vM aG a,vM aG b] (vB r):=by
 refine pq aR Tryz.func127 rfl fun w X hC=>bB hC [4] (qs (aU hC [oN aG a,oN aG b] (fr 6 5) [(10,vB (!decide ((a.length:Int)=(b.length:Int))))] (aX h (fun c1 h=>?_) fun c1 h=>?_)))
 ·cases h;exact aE hC [4] [(4,vB false)] zr
 refine qk (qs (aE hC [5] [(5,vI 0)] (qb (gO h (fun x_=>dA [(0,vM aG a),(1,vM aG b),(5,vI x_)]) lS ?_))));rintro again2 x1 h;refine qs (aU hC [oN aG a] (fr 11 4) [(14,vK x1 a)] (aX h (fun c2 h=>?_) fun c2 h=>?_))
 ·refine qk (d0 (qs ?_));obtain⟨x3,hx3,x4,hx4,x5,hx5,h⟩:=w5 h;refine o9 hC cZ [oR aG hx3,oR aG hx4,oV (aA4 G hx5)] (fr 17 10) [(26,vB (!x5))] (aX h (fun c3 h=>?_) fun c3 h=>qk (bE hC [5,15,16] [(5,vI (wr (x1+1)))] (lE h)));cases h;exact aE hC [4] [(4,vB false)] zr
 cases h;exact dR (aE hC [4] [(4,vB true)] zr)
theorem aA5{a}{b}{r}(h:rU n a b=some r):PQ G 82 [V.agg (X5 a),V.agg (X5 b)] (vB r):=by
 refine pq aR Tryz.func82 rfl fun w X hC=>aU hC [.z (.b (true)),.z (.b (true))] [2,3,4] [(2,V.tp (jD a)),(3,V.tp (jD b))] (qs ?_);obtain⟨x1,hx1,h⟩:=bd h;refine aU hC [oV (W3 G hx1)] (fr 5 6) [(10,vB (!x1))] (aX h (fun c1 h=>?_) fun c1 h=>?_)
 ·cases h;exact aE hC [4] [(4,vB false)] zr
 refine qk (qs ?_);obtain⟨x2,hx2,h⟩:=bd h;refine aU hC [oV (W1 G hx2)] (fr 11 6) [(16,vB (!x2))] (aX h (fun c2 h=>?_) fun c2 h=>?_)
 ·cases h;exact aE hC [4] [(4,vB false)] zr
 cases h;exact qk (aE hC [4] [(4,vB true)] zr)
theorem W2{a}{b}{r}(h:uB n a b=some r):PQ G 38 [vM aJ a,vM aJ b] (vB r):=by
 refine pq aR Tryz.func38 rfl fun w X hC=>bB hC [4] (qs (aU hC [oN aJ a,oN aJ b] (fr 6 5) [(10,vB (!decide ((a.length:Int)=(b.length:Int))))] (aX h (fun c1 h=>?_) fun c1 h=>?_)))
 ·cases h;exact aE hC [4] [(4,vB false)] zr
 refine qk (qs (aE hC [5] [(5,vI 0)] (qb (gO h (fun x_=>dA [(0,vM aJ a),(1,vM aJ b),(5,vI x_)]) lS ?_))));rintro again2 x1 h;refine qs (aU hC [oN aJ a] (fr 11 4) [(14,vK x1 a)] (aX h (fun c2 h=>?_) fun c2 h=>?_))
 ·refine qk (d0 (qs ?_));obtain⟨x3,hx3,x4,hx4,x5,hx5,h⟩:=w5 h;refine o9 hC cZ [oR aJ hx3,oR aJ hx4,oV (aA5 G hx5)] (fr 17 10) [(26,vB (!x5))] (aX h (fun c3 h=>?_) fun c3 h=>qk (bE hC [5,15,16] [(5,vI (wr (x1+1)))] (lE h)));cases h;exact aE hC [4] [(4,vB false)] zr
 cases h;exact dR (aE hC [4] [(4,vB true)] zr)
theorem E0{a}{b}{r}(h:lO n a b=some r):PQ G 13 [V.agg (fI a),V.agg (fI b)] (vB r):=by
 refine pq aR Tryz.func13 rfl fun w X hC=>aU hC [.z (.b (true)),.z (.b (true))] [2,3,4] [(2,V.tp (bU a)),(3,V.tp (bU b))] (qs ?_);obtain⟨x1,hx1,h⟩:=bd h;refine aU hC [oV (P2 G hx1)] (fr 5 6) [(10,vB (!x1))] (aX h (fun c1 h=>?_) fun c1 h=>?_)
 ·cases h;exact aE hC [4] [(4,vB false)] zr
 refine qk (qs ?_);obtain⟨x2,hx2,h⟩:=bd h;refine aU hC [oV (W2 G hx2)] (fr 11 6) [(16,vB (!x2))] (aX h (fun c2 h=>?_) fun c2 h=>?_)
 ·cases h;exact aE hC [4] [(4,vB false)] zr
 cases h;exact qk (aE hC [4] [(4,vB true)] zr)
theorem jS{k}{r}(h:eL n k=some r):PQ G 83 [vI k] (vS r):=by
 refine pq aR Tryz.func83 rfl fun w X hC=>bB hC [2] (qs (aE hC [4,5] [(5,vD (k≤0))] (aX h (fun c1 h=>?_) fun c1 h=>?_)))
 ·obtain rfl:=so h;exact aE hC [2] [(2,vS [109,48])] zr
 refine qk (aE hC [3] [(3,vS [])] (d0 (gO h (fun x_=>dA [(0,vI x_.1),(3,vS x_.2)]) lS ?_)));rintro again3 ⟨x1,x2⟩ h;refine qs (aE hC [6,7] [(7,vD ((0:Int)<x1))] (aX h (fun c2 h=>?_) fun c2 h=>?_))
 ·refine qk (qb ?_);obtain⟨x4,hx4,h⟩:=bd h;exact aU hC [.z (.y (UInt8.ofInt (wr (48+(Int.tmod x1 10))))),.z (.int 0),.z (.str [UInt8.ofInt (wr (48+(Int.tmod x1 10)))]),oQ (show(10:Int)≠0 by decide),oQ (Eq.refl (UInt8.ofInt (wr (48+(Int.tmod x1 10))))),oQ (Eq.refl (List.map jV [UInt8.ofInt (wr (48+(Int.tmod x1 10)))])),oS hx4] [3,8,9,10,11,12,13,14,15] [(3,vS x4)] (bM hC [oQ (show(10:Int)≠0 by decide)] [0,16,17] [(0,vI (wr (Int.tdiv x1 10)))] (lE h))
 refine dR ?_;obtain⟨x5,hx5,h⟩:=bd h;obtain rfl:=so h;exact aU hC [oS hx5] [2,18,19] [(2,vS x5)] zr
theorem W6{p}{r}(h:pP n p=some r):PQ G 86 [V.agg (fI p)] (vI r):=by
 refine pq aR Tryz.func86 rfl fun w X hC=>aU hC [.z (.b (true))] [1,2] [(1,V.tp (bU p))] (aE hC [3] [(3,vI 0)] (qs (aE hC [4] [(4,vI 0)] (qb (gO h (fun x_=>dA [(1,V.tp (bU p)),(3,vI x_.1),(4,vI x_.2)]) lS ?_)))));rintro again3 ⟨x1,x2⟩ h;refine qs (aU hC [oN aN p.arrays] (fr 5 5) [(9,vK x2 p.arrays)] (aX h (fun c1 h=>?_) fun c1 h=>?_))
 ·refine qk (d0 ?_);obtain⟨x4,hx4,x5,hx5,h⟩:=gQ h;exact bM hC [oR aN hx4,oV (A2 G hx5)] [3,12,13,14,15,16,17,18,19] [(3,vI (wr (x1+x5)))] (bE hC [4,10,11] [(4,vI (wr (x2+1)))] (lE h))
 obtain rfl:=so h;exact dR (aE hC [2,20] [(2,vI x1)] zr)
theorem w3{p}{m}{r}(h:iJ n p m=some r):PQ G 41 [V.agg (fI p),vM rI m] (vB r):=by
 refine pq aR Tryz.func41 rfl fun w X hC=>aU hC [.z (.b (true))] [2,4] [(2,V.tp (bU p))] (qs (aE hC [5] [(5,vI 0)] (qb (gO h (fun x_=>dA [(1,vM rI m),(2,V.tp (bU p)),(5,vI x_)]) lS ?_))));rintro again2 x1 h;refine qs (aU hC [oN rI m] (fr 6 4) [(9,vK x1 m)] (aX h (fun c1 h=>?_) fun c1 h=>?_))
 ·refine qk (d0 (vj h (fun x_=>dA [(1,vM rI m),(2,V.tp (bU p)),(5,vI x1),(23,vB x_)]) (fun j3 h=>?_) fun x5 h=>?_))
  ·obtain⟨x4,hx4,h⟩:=bd h;exact aZ h (fun c2 h=>bM hC ([oR rI hx4]++rF 3 c2++[oR rI hx4]++rF 3 c2) (fr 12 12) [(23,vD ((999:Int)<x4))] (lE h)) fun c2 h=>bM hC ([oR rI hx4]++rT 6 c2) (fr 12 12) [(23,vB true)] (lE h)
  refine aX h (fun c3 h=>?_) fun c3 h=>qk (bE hC [5,10,11] [(5,vI (wr (x1+1)))] (lE h));obtain rfl:=so h;exact aE hC [4] [(4,vB false)] zr
 refine dR (vj h (fun x_=>dA [(4,vB x_)]) (fun j6 h=>?_) fun x9 h=>?_)
 ·obtain⟨x7,hx7,h⟩:=bd h;refine aZ h (fun c4 h=>bM hC ([oV (mX G hx7)]++rF 6 c4) [4,24,25,26,27,28,29,30,31,32] [(4,vB false)] (lE h)) fun c4 h=>?_;obtain⟨x8,hx8,h⟩:=bd h;exact bM hC [oV (mX G hx7),oT c4,oT c4,oN rI m,oT c4,oT c4,oV (W6 G hx8),oT c4,oT c4] [4,24,25,26,27,28,29,30,31,32] [(4,vD ((m.length:Int)=x8))] (lE h)
 obtain rfl:=so h;exact zr
theorem wZ{p}{r}(h:iI n p=some r):VQ G 42 [] [V.agg (fI p)] (ms 0 1 3 aY r) [ar 72 1 3 aY r]:=by
 refine vq aR Tryz.func42 rfl fun w X β0 hC hg=>aU hC [.z (.b (true))] [1,2] [(1,V.tp (bU p))] (rq hC [.z (.nat 20)] [3,8] [(3,ms 20 1 3 aY [])] [(20,some (ar 72 1 3 aY []))] [(20,true)] (qs (aE hC [4] [(4,vI 0)] (qb (C1 h (fun x_ g_=>gP [(1,V.tp (bU p)),(3,ms 20 g_ 3 aY x_.1),(4,vI x_.2)] [(20,ar 72 g_ 3 aY x_.1)] [20]) 1 (lS) ?_)))));rintro again4 ⟨x1,x2⟩ g3 h;refine qs (aU hC [oN aJ p.parts] (fr 9 5) [(13,vK x2 p.parts)] (aX h (fun c1 h=>?_) fun c1 h=>?_))
 ·refine qk (d0 ?_);obtain⟨x5,hx5,x6,hx6,h⟩:=gQ h;refine rq hC [.z (.nat 21),oR aJ hx5,oC [21] [] (tI G n [] 1 x5.nest [] hx6)] [5,16,17,18,19,20,21,22,23] [(5,ms 21 2 1 (rL rI) x6)] [(21,some (ar 39 2 1 (rL rI) x6))] [(21,true),(21,true)] (aE hC [6] [(6,vI 0)] (qb (C1 h (fun x_ g_=>gP [(1,V.tp (bU p)),(3,ms 20 g_ 3 aY x_.1),(4,vI x2),(5,ms 21 2 1 (rL rI) x6),(6,vI x_.2)] [(20,ar 72 g_ 3 aY x_.1),(21,ar 39 2 1 (rL rI) x6)] [20,21]) g3 (lS) ?_)));rintro again10 ⟨x7,x8⟩ g9 h;refine qs (aU hC [oN (rL rI) x6] (fr 24 4) [(27,vK x8 x6)] (aX h (fun c2 h=>?_) fun c2 h=>dR (bE hC [4,14,15] [(4,vI (wr (x2+1)))] ⟨(x7,wr (x2+1)),g9,h,lS⟩)));refine qk (d0 (aE hC [7] [(7,vI 0)] (qb (C1 h (fun x_ g_=>gP [(1,V.tp (bU p)),(3,ms 20 g_ 3 aY x_.1),(4,vI x2),(5,ms 21 2 1 (rL rI) x6),(6,vI x8),(7,vI x_.2)] [(20,ar 72 g_ 3 aY x_.1),(21,ar 39 2 1 (rL rI) x6)] [20,21]) g9 (lS) ?_))));rintro again14 ⟨x11,x12⟩ g13 h;refine qs (aU hC [oR aJ hx5,oN aG x5.body] (fr 30 9) [(38,vK x12 x5.body)] (aX h (fun c3 h=>?_) fun c3 h=>dR (bE hC [6,28,29] [(6,vI (wr (x8+1)))] ⟨(x11,wr (x8+1)),g13,h,lS⟩)));refine qk (d0 ?_);obtain⟨x15,hx15,x16,hx16,x17,hx17,h⟩:=w5 h;exact rk hC [.z (.nat 22),oQ (mP (rL rI) hx15),oX (rL rI) hx15,oA (dH rI hx16),.z (.at 4),.z (.fz 22 [49] []),.z (.int 0),oI [],oI x15,oA (dH aY hx17),oM 3 pW x11,oM 3 pW [(⟨x2,x12,x16⟩:Inst)]] [3,41,42,43,44,45,46,47,48,49,50,51,52] [(3,ms 20 (g13+1) 3 aY x17)] [(22,none),(20,some (ar 72 (g13+1) 3 aY x17))] [(22,true)] (bE hC [7,39,40] [(7,vI (wr (x12+1)))] ⟨(x17,wr (x12+1)),(g13+1),h,lS⟩)
 obtain rfl:=so h;exact dR (aE hC [2,53] [(2,ms 20 g3 3 aY x1)] (xR hC 2 20 (ms 0 1 3 aY x1) (ar 72 1 3 aY x1)))
theorem nP{n_a0}{r}(h:kO n n_a0=some r):PQ G 132 [vI n_a0] (vI r):=by
 refine pq aR Tryz.func132 rfl fun w X hC=>bB hC [2] (aU hC [oQ (show(1000:Int)≠0 by decide)] [0,3,4] [(0,vI (Int.tmod n_a0 1000))] (qs (aE hC [5,6] [(6,vD (Int.tmod n_a0 1000<0))] (aX h (fun c1 h=>?_) fun c1 h=>?_))))
 ·cases h;exact aE hC [2,7,8,9] [(2,vI (wr ((wr ((Int.tmod n_a0 1000)+999))+1)))] zr
 cases h;exact qk (aE hC [2,10] [(2,vI (Int.tmod n_a0 1000))] zr)
theorem aA8(G:GS): ∀(n:Nat) (list:List Arr) (m:List Int) (e:Expr) (point:List Int) {r:Int} (h:s_l5Eval n list m e point=some r),PQ G 88 [vM aN list,vM rI m,V.agg (iY e),vM rI point] (vI r):=by
 intro n;induction n with
 |zero=>intro list m e point r h;rw [s_l5Eval.eq_def] at h;cases h
 |succ n ih=>
  intro list m e point r h;rw [s_l5Eval.eq_def] at h;dsimp only at h;refine pq aR Tryz.func88 rfl fun w X hC=>aU hC [.z (.b (true))] [6,8] [(6,V.tp (fG e))] (qs (aE hC [11,12] [(12,vI e.kind)] (qb (aE hC [13,14] [(13,vD (e.kind=1))] (aX h (fun c1 h=>?_) fun c1 h=>?_)))))
  ·obtain rfl:=so h;exact aE hC [8,15,16] [(8,vI e.num)] zr
  refine aE hC [17,18] [(17,vD (e.kind=2))] (aX h (fun c2 h=>?_) fun c2 h=>?_)
  ·obtain⟨x1,hx1,x2,hx2,h⟩:=gQ h;obtain rfl:=so h;exact aU hC [oV (iD G hx1),oV (nP G hx2)] [8,19,20,21,22,23] [(8,vI x2)] zr
  refine aE hC [24,25] [(24,vD (e.kind=3))] (aX h (fun c3 h=>?_) fun c3 h=>?_)
  ·obtain⟨x3,hx3,x4,hx4,h⟩:=gQ h;obtain rfl:=so h;exact aU hC [oV (nQ G hx3),oR rI hx4] [8,26,27,28,29,30,31,32,33] [(8,vI x4)] zr
  refine qk ?_;obtain⟨x5,hx5,x6,hx6,h⟩:=gQ h;refine aU hC [.z (.row (bI x5)),oQ (dT aC hx5 (aL x5)),oV (ih list m x5 point hx6)] [9,34,35,36,37,38,39,40,41] [(9,vI x6)] ?_;obtain⟨x7,hx7,x8,hx8,h⟩:=gQ h;refine aU hC [.z (.row (bI x7)),oQ (dT aC hx7 (aL x7)),oV (ih list m x7 point hx8)] [10,42,43,44,45,46,47,48,49] [(10,vI x8)] (qs (aE hC [50,51] [(51,vI e.kind)] (qb (aE hC [52,53] [(52,vD (e.kind=4))] (aX h (fun c4 h=>?_) fun c4 h=>?_)))))
  ·obtain⟨x9,hx9,h⟩:=bd h;obtain rfl:=so h;exact aU hC [oV (nP G hx9)] [8,54,55,56,57] [(8,vI x9)] zr
  refine aE hC [58,59] [(58,vD (e.kind=5))] (aX h (fun c5 h=>?_) fun c5 h=>?_)
  ·obtain⟨x10,hx10,h⟩:=bd h;obtain rfl:=so h;exact aU hC [oV (nP G hx10)] [8,60,61,62,63] [(8,vI x10)] zr
  refine qk ?_;obtain⟨x11,hx11,h⟩:=bd h;obtain rfl:=so h;exact aU hC [oV (nP G hx11)] [8,64,65,66,67] [(8,vI x11)] zr
theorem aCD{p}{m}(mG:Nat){x}{r}(h:w8 n p m x=some r):VQ G 43 [ar 3 mG 1 rI m] [V.agg (fI p),ms 0 mG 1 rI m,V.agg (aBY x)] (V.tup []) [ar 3 mG 1 rI r]:=by refine vq aR Tryz.func43 rfl fun w X β0 hC hg=>aU hC [.z (.b (true)),.z (.b (true))] [3,5] [(3,V.tp (bU p)),(5,V.tp (aDw x))] (qs ?_);obtain⟨x1,hx1,x2,hx2,h⟩:=gQ h;refine dk hC cZ [oR aJ hx1,oR aG hx2,.z (.nat 20)] (fr 6 12) [(6,V.ref 20 0)] [(20,some (E.cells (jE x2)))] [(20,true)] ?_;obtain⟨x3,hx3,x4,hx4,x5,hx5,h⟩:=w5 h;obtain⟨x6,hx6,h⟩:=bd h;obtain rfl:=so h;exact dkt hC cZ [oV (nQ G hx3),.z (.b (true)),oV (aA8 G n p.arrays m x2.value x.point hx4),oQ (mP rI hx5),oX rI hx5,.z (.rows (x6.map rI)),oQ (str rI hx6)] [1,18,19,20,21,22,23,24,25,26,27,28,29,30,31,32,33,34] [(0,some (ar 3 mG 1 rI x6))] [] eW
theorem A5{p}{m}{r}(h:gD n p m=some r):VQ G 17 [] [V.agg (fI p),vM rI m] (V.tup [ms 0 1 1 rI r.1,vB r.2]) [ar 3 1 1 rI r.1]:=by
 refine vq aR Tryz.func17 rfl fun w X β0 hC hg=>aU hC [.z (.b (true))] [2,4,5] [(2,V.tp (bU p))] (qs ?_);obtain⟨x1,hx1,h⟩:=bd h;refine aU hC [oV (w3 G hx1)] (fr 9 4) [(12,vB (!x1))] (aX h (fun c1 h=>?_) fun c1 h=>?_)
 ·cases h;exact rq hC [.z (.nat 20)] [4,5,13] [(4,ms 20 1 1 rI []),(5,vB false)] [(20,some (ar 3 1 1 rI []))] [(20,true)] (xR hC 4 20 (ms 0 1 1 rI []) (ar 3 1 1 rI []))
 refine qk ?_;obtain⟨x2,hx2,h⟩:=bd h;refine rq hC [.z (.nat 20),oA (dH rI hx2),oI [],oI m] [6,14,15,16] [(6,ms 20 2 1 rI x2)] [(20,some (ar 3 2 1 rI x2))] [(20,true)] ?_;obtain⟨x3,hx3,h⟩:=bd h;refine rq hC [oC [] [21] (wZ G hx3)] [7,17,18] [(7,ms 21 1 3 aY x3)] [(21,some (ar 72 1 3 aY x3))] [(21,true)] (qs (aE hC [8] [(8,vI 0)] (qb (C1 h (fun x_ g_=>gP [(2,V.tp (bU p)),(6,ms 20 g_ 1 rI x_.1),(7,ms 21 1 3 aY x3),(8,vI x_.2)] [(20,ar 3 g_ 1 rI x_.1),(21,ar 72 1 3 aY x3)] [20,21]) 2 (lS) ?_))));rintro again7 ⟨x4,x5⟩ g6 h;refine qs (aU hC [oN aY x3] (fr 19 4) [(22,vK x5 x3)] (aX h (fun c2 h=>?_) fun c2 h=>?_))
 ·refine qk (d0 ?_);obtain⟨x8,hx8,x9,hx9,x10,hx10,h⟩:=w5 h;exact dkt hC cZ [oQ (mP aY hx8),oX aY hx8,oC [20] [] (aCD G g6 hx9)] (fr 25 7) [(20,some (ar 3 g6 1 rI x9))] [(20,true)] (qw (lpP hC [.len 6 (x9.map rI).length] [6] [(6,ms 20 g6 1 rI x9)] [] [] (a1 (aAk rI hx10)) (by kernel_rfl)) (bE hC [8,23,24] [(8,vI (wr (x5+1)))] ⟨(x9,wr (x5+1)),g6,h,lS⟩))
 cases h;exact dR (aE hC [4,5,32] [(4,ms 20 g6 1 rI x4),(5,vB true)] (xR hC 4 20 (ms 0 1 1 rI x4) (ar 3 1 1 rI x4)))
theorem l8{p}{r}(h:jA n p=some r):PQ G 90 [V.agg (fI p)] (vI r):=by
 refine pq aR Tryz.func90 rfl fun w X hC=>aU hC [.z (.b (true))] [1,2] [(1,V.tp (bU p))] (aE hC [3] [(3,vI 0)] (qs (aU hC [oN aN p.arrays] (fr 6 4) [(7,vM aN p.arrays),(8,vI (p.arrays.length:Int)),(9,vI 0)] (qb (gO h (fun x_=>dA [(3,vI x_.1),(7,vM aN p.arrays),(8,vI (p.arrays.length:Int)),(9,vI x_.2)]) lS ?_)))));rintro again3 ⟨x1,x2⟩ h;refine aE hC [10] [(10,vK x2 p.arrays)] (Q3 h (fun c1 h=>?_) fun c1 h=>?_)
 ·refine qk (d0 ?_);obtain⟨x4,hx4,h⟩:=bd h;refine rq hC [oR aN hx4,.z (.nat 20)] [5,11,12] [(5,V.ref 20 0)] [(20,sc [vS x4.name,vM rI x4.dims])] [(20,true)] ?_;obtain⟨x5,hx5,h⟩:=bd h;exact bM hC [oV (pG G hx5)] [3,13,14,15,16] [(3,vI (wr (x1+x5)))] (bE hC [9,17] [(9,vI (wr (x2+1)))] (lE h))
 obtain rfl:=so h;exact dR (aE hC [2,18] [(2,vI x1)] zr)
theorem tM(G:GS)(n:Nat)(n_a0:Int){r:Bool}(h:d5 n n_a0=some r):PQ G 92 [vI n_a0] (vB r):=by refine pq aR Tryz.func92 rfl fun w X hC=>bB hC [2] ?_;obtain⟨x1,hx1,h⟩:=bd h;cases h;exact aU hC [oV (bC G hx1)] (fr 2 4) [(2,vB (!x1))] zr
theorem w4{p}{m}{r}(h:iL n p m=some r):PQ G 44 [V.agg (fI p),vM rI m] (vB r):=by
 refine pq aR Tryz.func44 rfl fun w X hC=>aU hC [.z (.b (true))] [2,4] [(2,V.tp (bU p))] (vj h (fun x_=>dA [(4,vB x_)]) (fun j1 h=>?_) fun x5 h=>?_)
 ·obtain⟨x2,hx2,h⟩:=bd h;refine aZ h (fun c1 h=>bM hC ([oV (iE G hx2)]++rF 6 c1++sF 4) (fr 4 15) [(4,vB false)] (lE h)) fun c1 h=>?_;obtain⟨x3,hx3,h⟩:=bd h;refine aZ h (fun c2 h=>bM hC ([oV (iE G hx2),oT c1,oT c1,oN rI m,oT c1,oT c1,oV (l8 G hx3),oT c1,oT c1]++rF 4 c2) (fr 4 15) [(4,vB false)] (lE h)) fun c2 h=>?_;obtain⟨x4,hx4,h⟩:=bd h;exact bM hC [oV (iE G hx2),oT c1,oT c1,oN rI m,oT c1,oT c1,oV (l8 G hx3),oT c1,oT c1,oT c2,oT c2,oV (cE G n m 92 (fun q0=>d5 n q0) (fun q0 r h=>tM G n q0 h) hx4),oT c2,oT c2] (fr 4 15) [(4,vB (!x4))] (lE h)
 obtain rfl:=so h;exact zr
theorem pF{p}{r}(h:dU n p=some r):VQ G 46 [] [V.agg (fI p)] (ms 0 1 3 aY r) [ar 72 1 3 aY r]:=by
 refine vq aR Tryz.func46 rfl fun w X β0 hC hg=>aU hC [.z (.b (true))] [1,2] [(1,V.tp (bU p))] ?_;obtain⟨x1,hx1,h⟩:=bd h;refine rq hC [oC [] [20] (gS G hx1)] (fr 3 7) [(3,ms 20 1 3 aY x1.1),(4,vB x1.2)] [(20,some (ar 72 1 3 aY x1.1))] [(20,true)] (qs (aE hC [10,11] [(11,vB (!x1.2))] (aX h (fun c1 h=>?_) fun c1 h=>?_)))
 ·cases h;exact aE hC [2] [(2,eV)] (qw (lk hC [.grow 2 0 72] [2] [(2,ms 0 1 3 aY [])] [(0,some (ar 72 1 3 aY []))] [(0,true)]) zw)
 cases h;exact qk (aE hC [2,12] [(2,ms 20 1 3 aY x1.1)] (xR hC 2 20 (ms 0 1 3 aY x1.1) (ar 72 1 3 aY x1.1)))
theorem vT{p}{x}{r}(h:gL n p x=some r):PQ G 94 [V.agg (fI p),V.agg (aBY x)] (V.agg (jE r)):=by refine pq aR Tryz.func94 rfl fun w X hC=>rq hC [.z (.b (true)),.z (.b (true)),.z (.nat 20)] [2,3,4] [(2,V.tp (bU p)),(3,V.tp (aDw x)),(4,V.ref 20 0)] [(20,sc [vS [],eV,vI 0,vI 0,eV,vI 0,vS [],eV,eV])] [(20,true)] (qs ?_);obtain⟨x1,hx1,x2,hx2,h⟩:=gQ h;obtain rfl:=so h;exact dkt hC cZ [oR aJ hx1,oR aG hx2] (fr 5 11) [(20,some (E.cells (jE x2)))] [] zr
theorem nT{n_a0}{r}(h:kZ n n_a0=some r):PQ G 136 [vI n_a0] (vI r):=by refine pq aR Tryz.func136 rfl fun w X hC=>?_;cases h;exact bB hC [2] (aU hC [oQ (show(1000:Int)≠0 by decide),oQ (show(1000:Int)≠0 by decide)] (fr 2 6) [(2,vI (Int.tmod (wr ((wr ((Int.tmod n_a0 1000)+999))+1)) 1000))] zr)
theorem tL(G:GS): ∀(n:Nat) (p:Prog) (m:List Int) (e:Expr) (point:List Int) {r:Int} (h:i_Program_value n p m e point=some r),PQ G 95 [V.agg (fI p),vM rI m,V.agg (iY e),vM rI point] (vI r):=by
 intro n;induction n with
 |zero=>intro p m e point r h;rw [i_Program_value.eq_def] at h;cases h
 |succ n ih=>
  intro p m e point r h;rw [i_Program_value.eq_def] at h;dsimp only at h;refine pq aR Tryz.func95 rfl fun w X hC=>aU hC [.z (.b (true)),.z (.b (true))] [4,6,8] [(4,V.tp (bU p)),(6,V.tp (fG e))] (qs (aE hC [11,12] [(12,vI e.kind)] (qb (aE hC [13,14] [(13,vD (e.kind=1))] (aX h (fun c1 h=>?_) fun c1 h=>?_)))))
  ·obtain rfl:=so h;exact aE hC [8,15,16] [(8,vI e.num)] zr
  refine aE hC [17,18] [(17,vD (e.kind=2))] (aX h (fun c2 h=>?_) fun c2 h=>?_)
  ·obtain⟨x1,hx1,x2,hx2,h⟩:=gQ h;obtain rfl:=so h;exact aU hC [oV (dC G hx1),oV (nT G hx2)] [8,19,20,21,22,23] [(8,vI x2)] zr
  refine aE hC [24,25] [(24,vD (e.kind=3))] (aX h (fun c3 h=>?_) fun c3 h=>?_)
  ·obtain⟨x3,hx3,x4,hx4,h⟩:=gQ h;obtain rfl:=so h;exact aU hC [oV (dQ G hx3),oR rI hx4] [8,26,27,28,29,30,31,32,33] [(8,vI x4)] zr
  refine qk (qs ?_);obtain⟨x5,hx5,x6,hx6,x7,hx7,h⟩:=w5 h;obtain⟨x8,hx8,h⟩:=bd h;refine o9 hC cZ [.z (.row (bI x5)),oQ (dT aC hx5 (aL x5)),oV (ih p m x5 point hx6),.z (.row (bI x7)),oQ (dT aC hx7 (aL x7)),oV (ih p m x7 point hx8)] [9,10,34,35,36,37,38,39,40,41,42,43,44,45,46,47,48,49] [(9,vI x6),(10,vI x8)] (qs (aE hC [50,51] [(51,vI e.kind)] (qb (aE hC [52,53] [(52,vD (e.kind=4))] (aX h (fun c4 h=>?_) fun c4 h=>?_)))))
  ·obtain⟨x9,hx9,h⟩:=bd h;obtain rfl:=so h;exact aU hC [oV (nT G hx9)] [8,54,55,56,57] [(8,vI x9)] zr
  refine aE hC [58,59] [(58,vD (e.kind=5))] (aX h (fun c5 h=>?_) fun c5 h=>?_)
  ·obtain⟨x10,hx10,h⟩:=bd h;obtain rfl:=so h;exact aU hC [oV (nT G hx10)] [8,60,61,62,63] [(8,vI x10)] zr
  refine qk ?_;obtain⟨x11,hx11,h⟩:=bd h;obtain rfl:=so h;exact aU hC [oV (nT G hx11)] [8,64,65,66,67] [(8,vI x11)] zr
theorem B0{p}{m}(mG:Nat){x}{r}(h:jO n p m x=some r):VQ G 47 [ar 3 mG 1 rI m] [V.agg (fI p),ms 0 mG 1 rI m,V.agg (aBY x)] (V.tup []) [ar 3 mG 1 rI r]:=by refine vq aR Tryz.func47 rfl fun w X β0 hC hg=>aU hC [.z (.b (true)),.z (.b (true))] [3,5] [(3,V.tp (bU p)),(5,V.tp (aDw x))] ?_;obtain⟨x1,hx1,h⟩:=bd h;refine rq hC [oV (vT G hx1),.z (.nat 20)] (fr 6 4) [(6,V.ref 20 0)] [(20,some (E.cells (jE x1)))] [(20,true)] ?_;obtain⟨x2,hx2,x3,hx3,x4,hx4,h⟩:=w5 h;obtain⟨x5,hx5,h⟩:=bd h;obtain rfl:=so h;exact dkt hC cZ [oV (dQ G hx2),.z (.b (true)),oV (tL G n p m x1.value x.point hx3),oQ (mP rI hx4),oX rI hx4,.z (.rows (x5.map rI)),oQ (str rI hx5)] [1,10,11,12,13,14,15,16,17,18,19,20,21,22,23,24] [(0,some (ar 3 mG 1 rI x5))] [] eW
theorem A9{p}{m}{r}(h:eY n p m=some r):VQ G 19 [] [V.agg (fI p),vM rI m] (V.tup [ms 0 1 1 rI r.1,vB r.2]) [ar 3 1 1 rI r.1]:=by
 refine vq aR Tryz.func19 rfl fun w X β0 hC hg=>aU hC [.z (.b (true))] [2,4,5] [(2,V.tp (bU p))] (qs ?_);obtain⟨x1,hx1,h⟩:=bd h;refine aU hC [oV (w4 G hx1)] (fr 9 4) [(12,vB (!x1))] (aX h (fun c1 h=>?_) fun c1 h=>?_)
 ·cases h;exact aE hC [4,5] [(4,eV),(5,vB false)] (qw (lk hC [.grow 4 0 3] [4] [(4,ms 0 1 1 rI [])] [(0,some (ar 3 1 1 rI []))] [(0,true)]) zw)
 refine qk ?_;obtain⟨x2,hx2,h⟩:=bd h;refine rq hC [oC [] [20] (G.clone m hx2)] [6,13,14] [(6,ms 20 1 1 rI x2)] [(20,some (ar 3 1 1 rI x2))] [(20,true)] (qs ?_);obtain⟨x3,hx3,h⟩:=bd h;refine rq hC [oC [] [21] (pF G hx3),oN aY x3] (fr 15 4) [(16,ms 21 1 3 aY x3),(17,vI (x3.length:Int)),(18,vI 0)] [(21,some (ar 72 1 3 aY x3))] [(21,true)] (qb (C1 h (fun x_ g_=>gP [(2,V.tp (bU p)),(6,ms 20 g_ 1 rI x_.1),(16,ms 21 1 3 aY x3),(17,vI (x3.length:Int)),(18,vI x_.2)] [(20,ar 3 g_ 1 rI x_.1),(21,ar 72 1 3 aY x3)] [20,21]) 1 (lS) ?_));rintro again7 ⟨x4,x5⟩ g6 h;refine aE hC [19] [(19,vK x5 x3)] (Q3 h (fun c2 h=>?_) fun c2 h=>?_)
 ·refine qk (d0 ?_);obtain⟨x8,hx8,h⟩:=bd h;refine rq hC [oQ (mP aY hx8),oX aY hx8,.z (.nat 22)] [8,20,21] [(8,V.ref 22 0)] [(22,some (E.cells (aBY x8)))] [(22,true)] ?_;obtain⟨x9,hx9,x10,hx10,h⟩:=gQ h;exact rk hC [oC [20] [] (B0 G g6 hx9),.z (.len 6 (x9.map rI).length),oQ (aAk rI hx10)] [6,22,23,24,25] [(6,ms 20 g6 1 rI x9)] [(20,some (ar 3 g6 1 rI x9))] [(20,true)] (bE hC [18,26] [(18,vI (wr (x5+1)))] ⟨(x9,wr (x5+1)),g6,h,lS⟩)
 cases h;exact dR (aE hC [4,5,27] [(4,ms 20 g6 1 rI x4),(5,vB true)] (xR hC 4 20 (ms 0 1 1 rI x4) (ar 3 1 1 rI x4)))
theorem tE{a}{k}{r}(h:kI n a k=some r):PQ G 22 [vM rI a,vI k] (vI r):=by
 refine pq aR Tryz.func22 rfl fun w X hC=>bB hC [4] (qs (aE hC [5] [(5,vI 0)] (qb (gO h (fun x_=>dA [(0,vM rI a),(1,vI x_.1),(5,vI x_.2)]) lS ?_))));rintro again3 ⟨x1,x2⟩ h;refine qs (aU hC [oN rI a] (fr 6 4) [(9,vK x2 a)] (aX h (fun c1 h=>?_) fun c1 h=>?_))
 ·refine qk (d0 (qs ?_));obtain⟨x4,hx4,h⟩:=bd h;refine aU hC [oR rI hx4] (fr 12 6) [(17,vB (!decide (x4=x1)))] (aX h (fun c2 h=>?_) fun c2 h=>qk (bE hC [1,18,19] [(1,vI (wr (x1+1)))] (bE hC [5,10,11] [(5,vI (wr (x2+1)))] (lE h))));obtain rfl:=so h;exact aE hC [4] [(4,vI (-1))] zr
 obtain rfl:=so h;exact dR (aE hC [4,20] [(4,vI x1)] zr)
end Go.Lift
