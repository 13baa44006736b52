/- The walks: the code computes what the plain functions say. -/
import Derived.Test.YtcihigfifglboabGreatEModels
import Derived.Test.YtcihigfifglboabGreatEWalks2
set_option maxRecDepth 10000
set_option linter.unusedVariables false
namespace Go.Lift
open Go Go.Proofs
variable (G:GS) {n:Nat}
theorem sW{x}{r}(h:iT n x=some r):PQ G 342 [V.agg (aO x)] (V.agg (aO r)):=by refine pq aL Tryz.func342 rfl fun w X hC=>eQ hC [.z (.nat 20),.z (.nat 21)] ?_;obtain⟨x1,hx1,h⟩:=bd h;cases h;exact eQ hC [.z (.nat 22),oA (aM rI hx1),oI [],oI x.coefs] (eQ hC [.z (.at 2),.z (.fz 22 [] [20])] zr)
theorem jC{list}{r}(h:dV n list=some r):VQ G 325 [] [vM aB list] (ms 0 1 2 aB r) [ar 70 1 2 aB r]:=by
 refine vq aL Tryz.func325 rfl fun w X β0 hC hg=>aH hC (eQ hC [.z (.nat 20)] (qs (eQ hC [oN aB list] (qb (iO h (fun x_ g_=>bU [(3,ms 20 g_ 2 aB x_.1),(7,vM aB list),(8,vI (list.length:Int)),(9,vI x_.2)] [(20,ar 70 g_ 2 aB x_.1)] [20]) 1 (lS) ?_)))));rintro again4 ⟨x1,x2⟩ g3 h;refine aH hC (kJ h (fun c1 h=>?_) fun c1 h=>?_)
 ·refine qk (cU ?_);obtain⟨x5,hx5,h⟩:=bd h;refine eQ hC [oR aB hx5,.z (.nat 21)] ?_;obtain⟨x6,hx6,x7,hx7,h⟩:=cM h;exact eK hC [oV (sW G hx6),.z (.int 0),oA (aM aB hx7),oM 2 aU x1,oM 2 aU [x6]] (bX hC ⟨(x7,wr (x2+1)),(g3+1),h,lS⟩)
 obtain rfl:=so h;exact cE (aH hC (xE hC 2 20))
theorem aBl{x}{r}(h:tN n x=some r):PQ G 285 [V.agg (nM x)] (V.agg (nM r)):=by refine pq aL Tryz.func285 rfl fun w X hC=>eQ hC [.z (.nat 20),.z (.nat 21)] ?_;obtain⟨x1,hx1,h⟩:=bd h;refine eQ hC [oC [] [22] (jC G hx1)] ?_;obtain⟨x2,hx2,h⟩:=bd h;cases h;exact eQ hC [oC [] [23] (jC G hx2)] (eQ hC [.z (.at 2),.z (.fz 22 [] [20]),.z (.at 2),.z (.fz 23 [] [20])] zr)
theorem zT{list}{r}(h:jJ n list=some r):VQ G 242 [] [vM aC list] (ms 0 1 2 aC r) [ar 64 1 2 aC r]:=by
 refine vq aL Tryz.func242 rfl fun w X β0 hC hg=>aH hC (eQ hC [.z (.nat 20)] (qs (eQ hC [oN aC list] (qb (iO h (fun x_ g_=>bU [(3,ms 20 g_ 2 aC x_.1),(7,vM aC list),(8,vI (list.length:Int)),(9,vI x_.2)] [(20,ar 64 g_ 2 aC x_.1)] [20]) 1 (lS) ?_)))));rintro again4 ⟨x1,x2⟩ g3 h;refine aH hC (kJ h (fun c1 h=>?_) fun c1 h=>?_)
 ·refine qk (cU ?_);obtain⟨x5,hx5,h⟩:=bd h;refine eQ hC [oR aC hx5,.z (.nat 21)] ?_;obtain⟨x6,hx6,x7,hx7,h⟩:=cM h;exact eK hC [oV (aBl G hx6),.z (.int 0),oA (aM aC hx7),oM 2 cH x1,oM 2 cH [x6]] (bX hC ⟨(x7,wr (x2+1)),(g3+1),h,lS⟩)
 obtain rfl:=so h;exact cE (aH hC (xE hC 2 20))
theorem sX{x}{r}(h:iU n x=some r):PQ G 326 [V.agg (cY x)] (V.agg (cY r)):=by refine pq aL Tryz.func326 rfl fun w X hC=>eQ hC [.z (.nat 20),.z (.nat 21)] ?_;obtain⟨x1,hx1,h⟩:=bd h;cases h;exact eQ hC [oC [] [22] (jC G hx1)] (eQ hC [.z (.at 2),.z (.fz 22 [] [20])] zr)
theorem zU(G:GS)(n:Nat)(self:Expr→Option Expr)(hself: ∀(q0:Expr) {r:Expr},self q0=some r→PQ G 327 [V.agg (eG q0)] (V.agg (eG r)))(list:List Expr){r:(List Expr)}(h:lX n self list=some r):VQ G 343 [] [vM aT list] (ms 0 1 7 aT r) [ar 93 1 7 aT r]:=by
 refine vq aL Tryz.func343 rfl fun w X β0 hC hg=>aH hC (eQ hC [.z (.nat 20)] (qs (eQ hC [oN aT list] (qb (iO h (fun x_ g_=>bU [(3,ms 20 g_ 7 aT x_.1),(7,vM aT list),(8,vI (list.length:Int)),(9,vI x_.2)] [(20,ar 93 g_ 7 aT x_.1)] [20]) 1 (lS) ?_)))));rintro again4 ⟨x1,x2⟩ g3 h;refine aH hC (kJ h (fun c1 h=>?_) fun c1 h=>?_)
 ·refine qk (cU ?_);obtain⟨x5,hx5,h⟩:=bd h;refine eQ hC [.z (.row (eC x5)),.z (.nat 21),oQ (fM aT hx5 (dJ x5))] ?_;obtain⟨x6,hx6,x7,hx7,h⟩:=cM h;exact eK hC [oV (hself x5 hx6),.z (.int 2),.z (.rows (List.map aT [x6])),oQ (qS x6),oA (aM aT hx7),oM 7 dO x1,oM 7 dO [x6]] (bX hC ⟨(x7,wr (x2+1)),(g3+1),h,lS⟩)
 obtain rfl:=so h;exact cE (aH hC (xE hC 2 20))
theorem aBm(G:GS): ∀(n:Nat) (x:Expr) {r:Expr} (h:s_l16OwnExpr n x=some r),PQ G 327 [V.agg (eG x)] (V.agg (eG r)):=by
 intro n;induction n with
 |zero=>intro x r h;rw [s_l16OwnExpr.eq_def] at h;cases h
 |succ n ih=>
  intro x r h;rw [s_l16OwnExpr.eq_def] at h;dsimp only at h;refine pq aL Tryz.func327 rfl fun w X hC=>eQ hC [.z (.nat 20),.z (.nat 21)] ?_;obtain⟨x1,hx1,h⟩:=bd h;refine eQ hC [oV (sW G hx1)] ?_;obtain⟨x2,hx2,h⟩:=bd h;refine eQ hC [oV (sX G hx2)] ?_;obtain⟨x3,hx3,h⟩:=bd h;cases h;exact eQ hC [oC [] [22] (zU G n (s_l16OwnExpr n) (fun q0 r h=>ih q0 h) x.kids hx3)] (eQ hC [.z (.at 2),.z (.fz 22 [] [20])] zr)
theorem aBj{x}{r}(h:nO n x=some r):PQ G 286 [V.agg (fT x)] (V.agg (fT r)):=by refine pq aL Tryz.func286 rfl fun w X hC=>eQ hC [.z (.nat 20),.z (.nat 21)] ?_;obtain⟨x1,hx1,h⟩:=bd h;refine eQ hC [oV (sX G hx1)] ?_;obtain⟨x2,hx2,h⟩:=bd h;cases h;exact eQ hC [oV (aBm G n x.value hx2)] (aH hC zr)
theorem zR{list}{r}(h:jH n list=some r):VQ G 243 [] [vM aP list] (ms 0 1 9 aP r) [ar 95 1 9 aP r]:=by
 refine vq aL Tryz.func243 rfl fun w X β0 hC hg=>aH hC (eQ hC [.z (.nat 20)] (qs (eQ hC [oN aP list] (qb (iO h (fun x_ g_=>bU [(3,ms 20 g_ 9 aP x_.1),(7,vM aP list),(8,vI (list.length:Int)),(9,vI x_.2)] [(20,ar 95 g_ 9 aP x_.1)] [20]) 1 (lS) ?_)))));rintro again4 ⟨x1,x2⟩ g3 h;refine aH hC (kJ h (fun c1 h=>?_) fun c1 h=>?_)
 ·refine qk (cU ?_);obtain⟨x5,hx5,h⟩:=bd h;refine eQ hC [oR aP hx5,.z (.nat 21)] ?_;obtain⟨x6,hx6,x7,hx7,h⟩:=cM h;exact eK hC [oV (aBj G hx6),.z (.int 0),oA (aM aP hx7),oM 9 d5 x1,oM 9 d5 [x6]] (bX hC ⟨(x7,wr (x2+1)),(g3+1),h,lS⟩)
 obtain rfl:=so h;exact cE (aH hC (xE hC 2 20))
theorem aBk{x}{r}(h:nP n x=some r):PQ G 187 [V.agg (wO x)] (V.agg (wO r)):=by refine pq aL Tryz.func187 rfl fun w X hC=>eQ hC [.z (.nat 20),.z (.nat 21)] ?_;obtain⟨x1,hx1,h⟩:=bd h;refine eQ hC [oC [] [22] (zT G hx1)] ?_;obtain⟨x2,hx2,h⟩:=bd h;cases h;exact eQ hC [oC [] [23] (zR G hx2)] (eQ hC [.z (.at 2),.z (.fz 22 [] [20]),.z (.at 2),.z (.fz 23 [] [20])] zr)
theorem zS{list}{r}(h:jI n list=some r):VQ G 104 [] [vM aD list] (ms 0 1 2 aD r) [ar 61 1 2 aD r]:=by
 refine vq aL Tryz.func104 rfl fun w X β0 hC hg=>aH hC (eQ hC [.z (.nat 20)] (qs (eQ hC [oN aD list] (qb (iO h (fun x_ g_=>bU [(3,ms 20 g_ 2 aD x_.1),(7,vM aD list),(8,vI (list.length:Int)),(9,vI x_.2)] [(20,ar 61 g_ 2 aD x_.1)] [20]) 1 (lS) ?_)))));rintro again4 ⟨x1,x2⟩ g3 h;refine aH hC (kJ h (fun c1 h=>?_) fun c1 h=>?_)
 ·refine qk (cU ?_);obtain⟨x5,hx5,h⟩:=bd h;refine eQ hC [oR aD hx5,.z (.nat 21)] ?_;obtain⟨x6,hx6,x7,hx7,h⟩:=cM h;exact eK hC [oV (aBk G hx6),.z (.int 0),oA (aM aD hx7),oM 2 cG x1,oM 2 cG [x6]] (bX hC ⟨(x7,wr (x2+1)),(g3+1),h,lS⟩)
 obtain rfl:=so h;exact cE (aH hC (xE hC 2 20))
theorem T8{x}{r}(h:q6 n x=some r):PQ G 186 [V.agg [vS x.name,vM rI x.dims]] (V.agg [vS r.name,vM rI r.dims]):=by refine pq aL Tryz.func186 rfl fun w X hC=>eQ hC [.z (.nat 20),.z (.nat 21)] ?_;obtain⟨x1,hx1,h⟩:=bd h;cases h;exact eQ hC [.z (.nat 22),oA (aM rI hx1),oI [],oI x.dims] (eQ hC [.z (.at 2),.z (.fz 22 [] [20])] zr)
theorem xW{list}{r}(h:iJ n list=some r):VQ G 103 [] [vM aR list] (ms 0 1 2 aR r) [ar 85 1 2 aR r]:=by
 refine vq aL Tryz.func103 rfl fun w X β0 hC hg=>aH hC (eQ hC [.z (.nat 20)] (qs (eQ hC [oN aR list] (qb (iO h (fun x_ g_=>bU [(3,ms 20 g_ 2 aR x_.1),(7,vM aR list),(8,vI (list.length:Int)),(9,vI x_.2)] [(20,ar 85 g_ 2 aR x_.1)] [20]) 1 (lS) ?_)))));rintro again4 ⟨x1,x2⟩ g3 h;refine aH hC (kJ h (fun c1 h=>?_) fun c1 h=>?_)
 ·refine qk (cU ?_);obtain⟨x5,hx5,h⟩:=bd h;refine eQ hC [oR aR hx5,.z (.nat 21)] ?_;obtain⟨x6,hx6,x7,hx7,h⟩:=cM h;exact eK hC [oV (T8 G hx6),.z (.int 0),oA (aM aR hx7),oM 2 gR x1,oM 2 gR [x6]] (bX hC ⟨(x7,wr (x2+1)),(g3+1),h,lS⟩)
 obtain rfl:=so h;exact cE (aH hC (xE hC 2 20))
theorem J2{x}{r}(h:kI n x=some r):PQ G 40 [V.agg (bV x)] (V.agg (bV r)):=by refine pq aL Tryz.func40 rfl fun w X hC=>eQ hC [.z (.nat 20),.z (.nat 21)] ?_;obtain⟨x1,hx1,h⟩:=bd h;refine eQ hC [oC [] [22] (xW G hx1)] ?_;obtain⟨x2,hx2,h⟩:=bd h;cases h;exact eQ hC [oC [] [23] (zS G hx2)] (eQ hC [.z (.at 2),.z (.fz 22 [] [20]),.z (.at 2),.z (.fz 23 [] [20])] zr)
theorem sU{p}{part}{loop}{r}(h:B5 n p part loop=some r):PQ G 41 [V.agg (bV p),vI part,vI loop] (vB r):=by
 refine pq aL Tryz.func41 rfl fun w X hC=>eQ hC [.z (.b (true))] (vj h (fun x_=>dA [(6,vB x_)]) (fun j1 h=>?_) fun x4 h=>?_)
 ·obtain⟨x2,hx2,h⟩:=bd h;refine aQ h (fun c1 h=>eK hC ([oV (dL G hx2)]++rF 3 c1++sF 19) (lE h)) fun c1 h=>?_;refine aQ h (fun c2 h=>eK hC ([oV (dL G hx2)]++rT 3 c1++rF 6 c2++sF 13) (lE h)) fun c2 h=>?_;refine aQ h (fun c3 h=>eK hC ([oV (dL G hx2)]++rT 3 c1++rT 4 c2++[oN aD p.parts,oT c2,oT c2]++rF 3 c3++sF 10) (lE h)) fun c3 h=>?_;refine aQ h (fun c4 h=>eK hC ([oV (dL G hx2)]++rT 3 c1++rT 4 c2++[oN aD p.parts,oT c2,oT c2]++rT 3 c3++rF 10 c4) (lE h)) fun c4 h=>?_;obtain⟨x3,hx3,h⟩:=bd h;exact eK hC ([oV (dL G hx2)]++rT 3 c1++rT 4 c2++[oN aD p.parts,oT c2,oT c2]++rT 3 c3++rT 5 c4++[oR aD hx3]++rT 3 c4++[oN aC x3.nest,oT c4,oT c4]) (lE h)
 obtain rfl:=so h;exact zr
theorem aHy{x}{v}{r}(h:B4 n x v=some r):PQ G 42 [V.agg (nM x),vI v] (vB r):=by
 refine pq aL Tryz.func42 rfl fun w X hC=>eQ hC [.z (.b (true))] (qs (aH hC (qb (gP h (fun x_=>dA [(1,vI v),(2,V.tp (P9 x)),(5,vI x_)]) lS ?_))));rintro again2 x1 h;refine qs (eQ hC [oN aB x.lo] (aS h (fun c1 h=>?_) fun c1 h=>?_))
 ·refine qk (cU ?_);obtain⟨x3,hx3,x4,hx4,h⟩:=cM h;refine eQ hC [oR aB hx3,oR rI hx4] (aS h (fun c2 h=>?_) fun c2 h=>qk (bX hC (lE h)));cases h;exact aH hC zr
 refine cE (qs (aH hC (qb (gP h (fun x_=>dA [(1,vI v),(2,V.tp (P9 x)),(6,vI x_)]) lS ?_))));rintro again6 x5 h;refine qs (eQ hC [oN aB x.hi] (aS h (fun c3 h=>?_) fun c3 h=>?_))
 ·refine qk (cU ?_);obtain⟨x7,hx7,x8,hx8,h⟩:=cM h;refine eQ hC [oR aB hx7,oR rI hx8] (aS h (fun c4 h=>?_) fun c4 h=>qk (bX hC (lE h)));cases h;exact aH hC zr
 cases h;exact cE (aH hC zr)
theorem uO{p}{r}(h:jX n p=some r):VQ G 105 [] [V.agg (bV p)] (ms 0 1 3 aY r) [ar 105 1 3 aY r]:=by
 refine vq aL Tryz.func105 rfl fun w X β0 hC hg=>eQ hC [.z (.b (true))] (eQ hC [.z (.nat 20)] (qs (aH hC (qb (iO h (fun x_ g_=>bU [(1,V.tp (fZ p)),(3,ms 20 g_ 3 aY x_.1),(4,vI x_.2)] [(20,ar 105 g_ 3 aY x_.1)] [20]) 1 (lS) ?_)))));rintro again4 ⟨x1,x2⟩ g3 h;refine qs (eQ hC [oN aD p.parts] (aS h (fun c1 h=>?_) fun c1 h=>?_))
 ·refine qk (cU ?_);obtain⟨x5,hx5,x6,hx6,h⟩:=cM h;refine eQ hC [.z (.nat 21),oR aD hx5,oC [21] [] (I9 G n [] 1 x5.nest [] hx6)] (aH hC (qb (iO h (fun x_ g_=>bU [(1,V.tp (fZ p)),(3,ms 20 g_ 3 aY x_.1),(4,vI x2),(5,ms 21 2 1 (rL rI) x6),(6,vI x_.2)] [(20,ar 105 g_ 3 aY x_.1),(21,ar 35 2 1 (rL rI) x6)] [20,21]) g3 (lS) ?_)));rintro again10 ⟨x7,x8⟩ g9 h;refine qs (eQ hC [oN (rL rI) x6] (aS h (fun c2 h=>?_) fun c2 h=>cE (bX hC ⟨(x7,wr (x2+1)),g9,h,lS⟩)));refine qk (cU (aH hC (qb (iO h (fun x_ g_=>bU [(1,V.tp (fZ p)),(3,ms 20 g_ 3 aY x_.1),(4,vI x2),(5,ms 21 2 1 (rL rI) x6),(6,vI x8),(7,vI x_.2)] [(20,ar 105 g_ 3 aY x_.1),(21,ar 35 2 1 (rL rI) x6)] [20,21]) g9 (lS) ?_))));rintro again14 ⟨x11,x12⟩ g13 h;refine qs (eQ hC [oR aD hx5,oN aP x5.body] (aS h (fun c3 h=>?_) fun c3 h=>cE (bX hC ⟨(x11,wr (x8+1)),g13,h,lS⟩)));refine qk (cU ?_);obtain⟨x15,hx15,x16,hx16,x17,hx17,h⟩:=iL h;exact eK hC [.z (.nat 22),oQ (fB (rL rI) hx15),oX (rL rI) hx15,oA (aM rI hx16),.z (.at 4),.z (.fz 22 [49] []),.z (.int 0),oI [],oI x15,oA (aM aY hx17),oM 3 xB x11,oM 3 xB [(⟨x2,x12,x16⟩:Inst)]] (bX hC ⟨(x17,wr (x12+1)),(g13+1),h,lS⟩)
 obtain rfl:=so h;exact cE (aH hC (xE hC 2 20))
theorem aHG{p}{r}(h:C0 n p=some r):VQ G 189 [] [V.agg (bV p)] (ms 0 1 2 iH r) [ar 205 1 2 iH r]:=by
 refine vq aL Tryz.func189 rfl fun w X β0 hC hg=>eQ hC [.z (.b (true))] (eQ hC [.z (.nat 20)] ?_);obtain⟨x1,hx1,h⟩:=bd h;refine eQ hC [oC [] [21] (uO G hx1)] (qs (aH hC (qb (iO h (fun x_ g_=>bU [(1,V.tp (fZ p)),(3,ms 20 g_ 2 iH x_.1),(4,ms 21 1 3 aY x1),(5,vI x_.2)] [(20,ar 205 g_ 2 iH x_.1),(21,ar 105 1 3 aY x1)] [20,21]) 1 (lS) ?_))));rintro again5 ⟨x2,x3⟩ g4 h;refine qs (eQ hC [oN aY x1] (aS h (fun c1 h=>?_) fun c1 h=>?_))
 ·refine qk (cU (qs ?_));obtain⟨x6,hx6,x7,hx7,x8,hx8,h⟩:=iL h;obtain⟨x9,hx9,h⟩:=bd h;refine eD hC aV [oQ (fB aY hx6),oX aY hx6,oR aD hx7,oQ (fB aY hx6),oX aY hx6,oR aP hx8,oQ (fB aY hx6),oX aY hx6,oC [] [22] (R8 G hx9)] ?_;obtain⟨x10,hx10,h⟩:=bd h;exact eK hC [.z (.at 4),.z (.fz 22 [6,48] []),.z (.int 0),oA (aM iH hx10),oM 2 aAf x2,oM 2 aAf [(⟨x9.1,x9.2.1⟩:L6Use)]] (bX hC ⟨(x10,wr (x3+1)),(g4+1),h,lS⟩)
 obtain rfl:=so h;exact cE (aH hC (xE hC 2 20))
theorem aCZ{list}{n_a1}{r}(h:C1 n list n_a1=some r):PQ G 245 [vM rI list,vI n_a1] (vB r):=by
 refine pq aL Tryz.func245 rfl fun w X hC=>aH hC (qs (aH hC (qb (gP h (fun x_=>dA [(0,vM rI list),(1,vI n_a1),(5,vI x_)]) lS ?_))));rintro again2 x1 h;refine qs (eQ hC [oN rI list] (aS h (fun c1 h=>?_) fun c1 h=>?_))
 ·refine qk (cU ?_);obtain⟨x3,hx3,h⟩:=bd h;refine eQ hC [oR rI hx3] (aS h (fun c2 h=>?_) fun c2 h=>qk (bX hC (lE h)));cases h;exact aH hC zr
 cases h;exact cE (aH hC zr)
theorem aFC{a}{b}{r}(h:w5 n a b=some r):PQ G 190 [V.agg [vM rI a.reads,vI a.write],V.agg [vM rI b.reads,vI b.write]] (vI r):=by
 refine pq aL Tryz.func190 rfl fun w X hC=>eQ hC [.z (.b (true)),.z (.b (true))] (aH hC (vj h (fun x_=>dA [(2,V.tp [T.sl (List.map rI a.reads),T.int .i64 a.write]),(3,V.tp [T.sl (List.map rI b.reads),T.int .i64 b.write]),(5,vI x_)]) (fun j1 h=>?_) fun x3 h=>?_))
 ·obtain⟨x2,hx2,h⟩:=bd h;exact eQ hC [oV (aCZ G hx2)] (aS h (fun c1 h=>bX hC (lE h)) fun c1 h=>qk (lE h))
 refine vj h (fun x_=>dA [(2,V.tp [T.sl (List.map rI a.reads),T.int .i64 a.write]),(3,V.tp [T.sl (List.map rI b.reads),T.int .i64 b.write]),(5,vI x_)]) (fun j4 h=>?_) fun x6 h=>?_
 ·obtain⟨x5,hx5,h⟩:=bd h;exact eQ hC [oV (aCZ G hx5)] (aS h (fun c2 h=>bX hC (lE h)) fun c2 h=>qk (lE h))
 refine vj h (fun x_=>dA [(5,vI x_)]) (fun j7 h=>aH hC (aS h (fun c3 h=>bX hC (lE h)) fun c3 h=>qk (lE h))) fun x8 h=>?_;obtain rfl:=so h;exact aH hC zr
theorem aHH{p}{r}(h:C2 n p=some r):VQ G 106 [] [V.agg (bV p)] (ms 0 1 3 gB r) [ar 137 1 3 gB r]:=by
 refine vq aL Tryz.func106 rfl fun w X β0 hC hg=>eQ hC [.z (.b (true))] (eQ hC [.z (.nat 20)] ?_);obtain⟨x1,hx1,h⟩:=bd h;refine eQ hC [oC [] [21] (aHG G hx1)] (qs (aH hC (qb (iO h (fun x_ g_=>bU [(3,ms 20 g_ 3 gB x_.1),(4,ms 21 1 2 iH x1),(5,vI x_.2)] [(20,ar 137 g_ 3 gB x_.1),(21,ar 205 1 2 iH x1)] [20,21]) 1 (lS) ?_))));rintro again5 ⟨x2,x3⟩ g4 h;refine qs (eQ hC [oN iH x1] (aS h (fun c1 h=>?_) fun c1 h=>?_))
 ·refine qk (cU (aH hC (qb (iO h (fun x_ g_=>bU [(3,ms 20 g_ 3 gB x_.1),(4,ms 21 1 2 iH x1),(5,vI x3),(6,vI x_.2)] [(20,ar 137 g_ 3 gB x_.1),(21,ar 205 1 2 iH x1)] [20,21]) g4 (lS) ?_))));rintro again9 ⟨x6,x7⟩ g8 h;refine qs (eQ hC [oN iH x1] (aS h (fun c2 h=>?_) fun c2 h=>cE (bX hC ⟨(x6,wr (x3+1)),g8,h,lS⟩)));refine qk ?_;obtain⟨j10,hj10,h⟩:=xU h;refine iN (γ:=Nat) (j:=j10) (r:=r) (fun x_ g_=>bU [(3,ms 20 g_ 3 gB x_),(4,ms 21 1 2 iH x1),(5,vI x3),(6,vI x7)] [(20,ar 137 g_ 3 gB x_),(21,ar 205 1 2 iH x1)] [20,21]) ?_ ?_
  ·refine qb (qs ?_);obtain⟨x11,hx11,x12,hx12,x13,hx13,h⟩:=iL h;refine eD hC aV [oQ (fB iH hx11),oX iH hx11,oQ (fB iH hx12),oX iH hx12,oV (aFC G hx13)] (aH hC (aS h (fun c3 h=>?_) fun c3 h=>qk ⟨x6,g8,h,lS⟩));obtain⟨x14,hx14,h⟩:=bd h;exact eK hC [.z (.int 0),oA (aM gB hx14),oM 3 E3 x6,oM 3 E3 [(⟨x3,x7,x13⟩:Dep)]] ⟨x14,(g8+1),h,lS⟩
  rintro x15 g16 h;subst hj10;exact bX hC ⟨(x15,wr (x7+1)),g16,h,lS⟩
 obtain rfl:=so h;exact cE (aH hC (xE hC 2 20))
theorem aFO{p}{q}{r}(h:w7 n p q=some r):PQ G 171 [vM rI p,vM rI q] (vB r):=by
 refine pq aL Tryz.func171 rfl fun w X hC=>aH hC (qs (aH hC (qb (gP h (fun x_=>dA [(0,vM rI p),(1,vM rI q),(5,vI x_)]) lS ?_))));rintro again2 x1 h;refine qs (vj h (fun x_=>dA [(0,vM rI p),(1,vM rI q),(5,vI x1),(15,vB x_)]) (fun j3 h=>aQ h (fun c1 h=>eK hC ([oN rI p]++rF 5 c1) (lE h)) fun c1 h=>eK hC ([oN rI p]++rT 3 c1++[oN rI q,oT c1,oT c1]) (lE h)) fun x4 h=>?_);refine aS h (fun c2 h=>?_) fun c2 h=>?_
 ·refine qk (cU (qs ?_));obtain⟨x5,hx5,x6,hx6,h⟩:=cM h;refine eD hC aV [oR rI hx5,oR rI hx6] (aS h (fun c3 h=>?_) fun c3 h=>qk (bX hC (lE h)));cases h;exact qs (eD hC aV [oR rI hx5,oR rI hx6] zr)
 cases h;exact cE (eQ hC [oN rI p,oN rI q] zr)
theorem aHT{a}{b}{r}(h:D4 n a b=some r):PQ G 191 [vM rI a,vM rI b] (vB r):=by
 refine pq aL Tryz.func191 rfl fun w X hC=>aH hC (qs (eQ hC [oN rI a,oN rI b] (aS h (fun c1 h=>?_) fun c1 h=>?_)))
 ·cases h;exact aH hC zr
 refine qk (qs (aH hC (qb (gP h (fun x_=>dA [(0,vM rI a),(1,vM rI b),(5,vI x_)]) lS ?_))));rintro again2 x1 h;refine qs (eQ hC [oN rI a] (aS h (fun c2 h=>?_) fun c2 h=>?_))
 ·refine qk (cU (qs ?_));obtain⟨x3,hx3,x4,hx4,h⟩:=cM h;refine eD hC aV [oR rI hx3,oR rI hx4] (aS h (fun c3 h=>?_) fun c3 h=>qk (bX hC (lE h)));cases h;exact aH hC zr
 cases h;exact cE (aH hC zr)
theorem aJT{list}{d}{r}(h:V9 n list d=some r):PQ G 107 [vM (rL rI) list,vM rI d] (vM (rL rI) r):=by
 refine pq aL Tryz.func107 rfl fun w X hC=>aH hC (eQ hC [.z (.nat 20)] (aH hC (qs (aH hC ?_))));refine qb (iO h (fun x_ g_=>bU [(0,vM (rL rI) list),(1,vM rI d),(5,ms 20 g_ 1 (rL rI) x_.1),(6,vB x_.2.1),(7,vI x_.2.2)] [(20,ar 35 g_ 1 (rL rI) x_.1)] [20]) 1 (lS) ?_);rintro again5 ⟨x1,x2,x3⟩ g4 h;refine qs (eQ hC [oN (rL rI) list] (aS h (fun c1 h=>?_) fun c1 h=>?_))
 ·refine qk (cU (qs ?_));obtain⟨x6,hx6,x7,hx7,h⟩:=cM h;refine eQ hC [oR (rL rI) hx6,oV (aHT G hx7)] (aS h (fun c2 h=>?_) fun c2 h=>?_)
  ·obtain rfl:=so h;exact aH hC zr
  refine qk ?_;obtain⟨j8,hj8,h⟩:=xU h;refine iN (γ:=Nat) (j:=j8) (r:=r) (fun x_ g_=>bU [(0,vM (rL rI) list),(1,vM rI d),(5,ms 20 g_ 1 (rL rI) x_.1),(6,vB x_.2),(7,vI x3)] [(20,ar 35 g_ 1 (rL rI) x_.1)] [20]) ?_ ?_
  ·refine vj h (fun x_=>bU [(0,vM (rL rI) list),(1,vM rI d),(5,ms 20 g4 1 (rL rI) x1),(6,vB x2),(7,vI x3),(31,vB x_)] [(20,ar 35 g4 1 (rL rI) x1)] [20]) (fun j9 h=>?_) fun x11 h=>?_
   ·refine aQ h (fun c3 h=>eK hC (rF 7 c3) (lE h)) fun c3 h=>?_;obtain⟨x10,hx10,h⟩:=bd h;exact eK hC (rT 4 c3++[oR (rL rI) hx6,oT c3,oT c3,oV (aFO G hx10),oT c3]) (lE h)
   refine aS h (fun c4 h=>?_) fun c4 h=>qk ⟨(x1,x2),g4,h,lS⟩;obtain⟨x12,hx12,h⟩:=bd h;exact eQ hC [.z (.int 0),oA (aM (rL rI) hx12),oQ (rwM (r:=(rL rI)) 1 (fun _=>rfl) x1),oQ (rwM (r:=(rL rI)) 1 (fun _=>rfl) [d])] (bX hC ⟨(x12,true),(g4+1),h,lS⟩)
  rintro⟨x13,x14⟩ g15 h;subst hj8;obtain⟨x16,hx16,h⟩:=bd h;exact eK hC [oR (rL rI) hx6,.z (.int 0),oA (aM (rL rI) hx16),oQ (rwM (r:=(rL rI)) 1 (fun _=>rfl) x13),oQ (rwM (r:=(rL rI)) 1 (fun _=>rfl) [x6])] (bX hC ⟨(x16,x14,wr (x3+1)),(g15+1),h,lS⟩)
 refine cE ?_;obtain⟨j17,hj17,h⟩:=xU h;refine iN (γ:=Nat) (j:=j17) (r:=r) (fun x_ g_=>bU [(5,ms 20 g_ 1 (rL rI) x_)] [(20,ar 35 g_ 1 (rL rI) x_)] [20]) ?_ ?_
 ·refine aH hC (aS h (fun c5 h=>?_) fun c5 h=>qk ⟨x1,g4,h,lS⟩);obtain⟨x18,hx18,h⟩:=bd h;exact eK hC [.z (.int 0),oA (aM (rL rI) hx18),oQ (rwM (r:=(rL rI)) 1 (fun _=>rfl) x1),oQ (rwM (r:=(rL rI)) 1 (fun _=>rfl) [d])] ⟨x18,(g4+1),h,lS⟩
 rintro x19 g20 h;subst hj17;obtain rfl:=so h;exact aH hC (wL hC [.fz 20 [4,5] []] zr)
theorem aFB{a}{b}{r}(h:w4 n a b=some r):VQ G 108 [] [vM rI a,vM rI b] (ms 0 1 1 rI r) [ar 3 1 1 rI r]:=by
 refine vq aL Tryz.func108 rfl fun w X β0 hC hg=>aH hC (eQ hC [.z (.nat 20)] (qs (aH hC (qb (iO h (fun x_ g_=>bU [(0,vM rI a),(1,vM rI b),(5,ms 20 g_ 1 rI x_.1),(6,vI x_.2)] [(20,ar 3 g_ 1 rI x_.1)] [20]) 1 (lS) ?_)))));rintro again4 ⟨x1,x2⟩ g3 h;refine qs (eQ hC [oN rI a] (aS h (fun c1 h=>?_) fun c1 h=>?_))
 ·refine qk (cU ?_);obtain⟨x5,hx5,x6,hx6,x7,hx7,h⟩:=iL h;exact eD hC aV [oR rI hx5,oR rI hx6,.z (.int 0),oA (aM rI hx7),oI x1,oI [wr (x5-x6)]] (bX hC ⟨(x7,wr (x2+1)),(g3+1),h,lS⟩)
 obtain rfl:=so h;exact cE (aH hC (xE hC 4 20))
theorem T7{p}{part}{r}(h:mK n p part=some r):PQ G 43 [V.agg (bV p),vI part] (vM (rL rI) r):=by
 refine pq aL Tryz.func43 rfl fun w X hC=>eQ hC [.z (.b (true))] (eQ hC [.z (.nat 20)] ?_);obtain⟨x1,hx1,h⟩:=bd h;refine eQ hC [oC [] [21] (uO G hx1)] ?_;obtain⟨x2,hx2,h⟩:=bd h;refine eQ hC [oC [] [22] (aHH G hx2)] (qs (aH hC (qb (wL hC [.fz 20 [5] []] (gP h (fun x_=>bU [(1,vI part),(5,vM (rL rI) x_.1),(6,ms 21 1 3 aY x1),(7,ms 22 1 3 gB x2),(8,vI x_.2)] [(21,ar 105 1 3 aY x1),(22,ar 137 1 3 gB x2)] [20,21,22]) lS ?_)))));rintro again5 ⟨x3,x4⟩ h;refine qs (eQ hC [oN gB x2] (aS h (fun c1 h=>?_) fun c1 h=>?_))
 ·refine qk (vj h (fun x_=>bU [(1,vI part),(5,vM (rL rI) x_.2.2.2.2.2.2),(6,ms 21 1 3 aY x1),(7,ms 22 1 3 gB x2),(8,vI x4)] [(21,ar 105 1 3 aY x1),(22,ar 137 1 3 gB x2),(23,E.cells [vI x_.1,vI x_.2.1,vM rI x_.2.2.1]),(24,E.cells [vI x_.2.2.2.1,vI x_.2.2.2.2.1,vM rI x_.2.2.2.2.2.1])] [20,21,22,23,24]) (fun j6 h=>?_) ?_)
  ·refine qb ?_;obtain⟨x7,hx7,x8,hx8,h⟩:=cM h;refine eQ hC [oQ (fB gB hx7),oX gB hx7,oQ (fB aY hx8),oX aY hx8,.z (.nat 23)] ?_;obtain⟨x9,hx9,h⟩:=bd h;refine eQ hC [oQ (fB gB hx7),oX gB hx7,oQ (fB aY hx9),oX aY hx9,.z (.nat 24)] (vj h (fun x_=>bU [(1,vI part),(5,vM (rL rI) x3),(6,ms 21 1 3 aY x1),(7,ms 22 1 3 gB x2),(8,vI x4),(9,V.ref 23 0),(10,V.ref 24 0),(47,vB x_)] [(21,ar 105 1 3 aY x1),(22,ar 137 1 3 gB x2),(23,E.cells (S6 x8)),(24,E.cells (S6 x9))] [20,21,22,23,24]) (fun j10 h=>aQ h (fun c2 h=>eK hC (rF 5 c2) (lE h)) fun c2 h=>eK hC (rT 5 c2) (lE h)) fun x11 h=>?_);refine aS h (fun c3 h=>?_) fun c3 h=>qk (lE h);obtain⟨x12,hx12,x13,hx13,h⟩:=cM h;exact eK hC [oC [] [25] (aFB G hx12),.z (.at 2),.z (.fz 25 [53] []),oV (aJT G hx13)] (lE h)
  rintro⟨x14,x15,x16,x17,x18,x19,x20⟩ h;exact bX hC (lE h)
 obtain rfl:=so h;exact cE (aH hC zr)
theorem aBq{d}{r}(h:nR n d=some r):PQ G 109 [vM rI d] (vI r):=by
 refine pq aL Tryz.func109 rfl fun w X hC=>aH hC (qs (aH hC (qb (gP h (fun x_=>dA [(0,vM rI d),(3,vI x_)]) lS ?_))));rintro again2 x1 h;refine qs (eQ hC [oN rI d] (aS h (fun c1 h=>?_) fun c1 h=>?_))
 ·refine qk (cU ?_);obtain⟨x3,hx3,h⟩:=bd h;refine eQ hC [oR rI hx3] (aS h (fun c2 h=>?_) fun c2 h=>qk (bX hC (lE h)));obtain rfl:=so h;exact aH hC zr
 obtain rfl:=so h;exact cE (aH hC zr)
theorem aHB{d}{r}(h:B6 n d=some r):PQ G 44 [vM rI d] (vB r):=by
 refine pq aL Tryz.func44 rfl fun w X hC=>aH hC ?_;obtain⟨x1,hx1,h⟩:=bd h;refine eQ hC [oV (aBq G hx1)] (vj h (fun x_=>dA [(2,vB x_)]) (fun j2 h=>?_) fun x4 h=>?_)
 ·refine aQ h (fun c1 h=>?_) fun c1 h=>eK hC (rT 6 c1) (lE h);obtain⟨x3,hx3,h⟩:=bd h;exact eK hC (rF 3 c1++[oR rI hx3]++rF 3 c1) (lE h)
 obtain rfl:=so h;exact zr
theorem aHz{a}{v}{r}(h:Z6 n a v=some r):PQ G 288 [V.agg (aO a),vI v] (V.agg (aO r)):=by refine pq aL Tryz.func288 rfl fun w X hC=>eQ hC [.z (.b (true)),.z (.nat 20)] ?_;obtain⟨x1,hx1,h⟩:=bd h;refine eQ hC [oC [] [21] (mF G hx1),.z (.nat 22)] (qs ?_);obtain⟨x2,hx2,x3,hx3,x4,hx4,h⟩:=iL h;refine eD hC aV [oR rI hx2,oQ (fB rI hx3),oX rI hx3,.z (.rows (x4.map rI)),oQ (str rI hx4)] (wP hC [.lenc 22 0 (x4.map rI).length] (a1 (eS rI hx4)) (qs ?_));obtain⟨x5,hx5,x6,hx6,x7,hx7,h⟩:=iL h;cases h;exact eD hC aV [oR rI hx5,oQ (fB rI hx6),oX rI hx6,.z (.rows (x7.map rI)),oQ (str rI hx7)] (wP hC [.lenc 22 0 (x7.map rI).length] (a1 (eS rI hx7)) (eQ hC [.z (.at 2),.z (.fz 21 [] [22])] zr))
theorem aFK{a}{v}{b}{r}(h:aCg n a v b=some r):PQ G 289 [V.agg (aO a),vI v,V.agg (aO b)] (V.agg (aO r)):=by refine pq aL Tryz.func289 rfl fun w X hC=>eQ hC [.z (.b (true)),.z (.b (true)),.z (.nat 20)] (qs ?_);obtain⟨x1,hx1,h⟩:=bd h;refine eD hC aV [.z (.nat 21),oA (aM rI hx1),.z (.nat 22),oI [],oI a.coefs] ?_;obtain⟨x2,hx2,x3,hx3,h⟩:=cM h;refine eQ hC [oQ (fB rI hx2),oX rI hx2,.z (.rows (x3.map rI)),.z (.lenc 22 0 (x3.map rI).length),oQ (str rI hx3),oQ (eS rI hx3)] (qs ?_);obtain⟨x4,hx4,x5,hx5,h⟩:=cM h;obtain rfl:=so h;exact eD hC aV [.z (.at 9),.z (.fz 21 [] [22]),oR rI hx4,oC [] [23] (rG G hx5)] (wL hC [.fz 23 [] [20]] zr)
theorem aBa{a}{way}{v}{b}{r}(h:iR n a way v b=some r):PQ G 246 [V.agg (aO a),vI way,vI v,V.agg (aO b)] (V.agg (aO r)):=by
 refine pq aL Tryz.func246 rfl fun w X hC=>eQ hC [.z (.b (true)),.z (.b (true)),.z (.nat 20)] (qs (aH hC (qb (aH hC (aS h (fun c1 h=>?_) fun c1 h=>?_)))))
 ·obtain⟨x1,hx1,h⟩:=bd h;obtain rfl:=so h;exact eQ hC [oV (aHz G hx1)] zr
 refine aH hC (aS h (fun c2 h=>?_) fun c2 h=>?_)
 ·obtain⟨x2,hx2,h⟩:=bd h;obtain rfl:=so h;exact eQ hC [oV (aFK G hx2)] zr
 refine qk (eQ hC [.z (.nat 21)] (qs (aH hC (qb (wL hC [.growc 21 0 22 3] ?_)))));refine iO h (fun x_ g_=>bU [(2,vI v),(4,V.tp (cN a)),(8,V.ref 20 0),(9,V.ref 21 0),(10,vI x_.2)] [(20,E.cells [cD,vI 0]),(21,E.cells [ms 22 g_ 1 rI x_.1,vI a.const]),(22,ar 3 g_ 1 rI x_.1)] [20,21,22]) 1 (lS) ?_;rintro again6 ⟨x3,x4⟩ g5 h;refine qs (aH hC (aS h (fun c3 h=>?_) fun c3 h=>?_))
 ·refine qk (vj h (fun x_=>bU [(2,vI v),(4,V.tp (cN a)),(8,V.ref 20 0),(9,V.ref 21 0),(10,vI x4)] [(20,E.cells [cD,vI 0]),(21,E.cells [ms 22 (g5+1) 1 rI x_,vI a.const]),(22,ar 3 (g5+1) 1 rI x_)] [20,21,22]) (fun j7 h=>?_) fun x13 h=>bX hC ⟨(x13,wr (x4+1)),(g5+1),h,lS⟩);refine qb (qb (aH hC (aS h (fun c4 h=>?_) fun c4 h=>?_)))
  ·obtain⟨x8,hx8,x9,hx9,h⟩:=cM h;exact eD hC aV [oR rI hx8,.z (.int 0),oA (aM rI hx9),oI x3,oI [x8]] (lE h)
  refine aH hC (aS h (fun c5 h=>?_) fun c5 h=>?_)
  ·obtain⟨x10,hx10,h⟩:=bd h;exact eK hC [.z (.int 0),oA (aM rI hx10),oI x3,oI [0]] (lE h)
  obtain⟨x11,hx11,x12,hx12,h⟩:=cM h;exact eD hC aV [oR rI hx11,.z (.int 0),oA (aM rI hx12),oI x3,oI [x11]] (lE h)
 obtain rfl:=so h;exact cE (eQ hC [.z (.at 2),.z (.fz 22 [] [21])] zr)
theorem zM{list}{way}{v}{b}{r}(h:rZ n list way v b=some r):VQ G 194 [] [vM aB list,vI way,vI v,V.agg (aO b)] (ms 0 1 2 aB r) [ar 70 1 2 aB r]:=by
 refine vq aL Tryz.func194 rfl fun w X β0 hC hg=>eQ hC [.z (.b (true))] (eQ hC [.z (.nat 20)] (qs (aH hC (qb (iO h (fun x_ g_=>bU [(0,vM aB list),(1,vI way),(2,vI v),(7,V.tp (cN b)),(9,ms 20 g_ 2 aB x_.1),(10,vI x_.2)] [(20,ar 70 g_ 2 aB x_.1)] [20]) 1 (lS) ?_)))));rintro again4 ⟨x1,x2⟩ g3 h;refine qs (eQ hC [oN aB list] (aS h (fun c1 h=>?_) fun c1 h=>?_))
 ·refine qk (cU ?_);obtain⟨x5,hx5,x6,hx6,x7,hx7,h⟩:=iL h;exact eD hC aV [oR aB hx5,oV (aBa G hx6),.z (.int 0),oA (aM aB hx7),oM 2 aU x1,oM 2 aU [x6]] (bX hC ⟨(x7,wr (x2+1)),(g3+1),h,lS⟩)
 obtain rfl:=so h;exact cE (aH hC (xE hC 8 20))
theorem I7{a}{way}{v}{b}{r}(h:lT n a way v b=some r):PQ G 192 [V.agg (cY a),vI way,vI v,V.agg (aO b)] (V.agg (cY r)):=by refine pq aL Tryz.func192 rfl fun w X hC=>eQ hC [.z (.b (true)),.z (.b (true)),.z (.nat 20)] (qs ?_);obtain⟨x1,hx1,h⟩:=bd h;cases h;exact eD hC aV [oC [] [21] (zM G hx1)] (wL hC [.fz 21 [] [20]] zr)
theorem aHC(G:GS): ∀(n:Nat) (e:Expr) (way:Int) (v:Int) (b:Affine) {r:Expr} (h:s_l8Expr n e way v b=some r),PQ G 193 [V.agg (eG e),vI way,vI v,V.agg (aO b)] (V.agg (eG r)):=by
 intro n;induction n with
 |zero=>intro e way v b r h;rw [s_l8Expr.eq_def] at h;cases h
 |succ n ih=>
  intro e way v b r h;rw [s_l8Expr.eq_def] at h;dsimp only at h;refine pq aL Tryz.func193 rfl fun w X hC=>eQ hC [.z (.b (true)),.z (.b (true)),.z (.nat 20)] (eQ hC [.z (.nat 21)] (vj h (fun x_=>bU [(1,vI way),(2,vI v),(4,V.tp (nH e)),(7,V.tp (cN b)),(8,V.ref 20 0),(9,V.ref 21 0)] [(20,E.cells [vI 0,vI 0,cD,vI 0,vS [],cD,cD]),(21,E.cells [vI e.kind,vI e.num,vM rI x_.1,vI x_.2,vS [],cD,cD])] [20,21]) (fun j1 h=>?_) ?_))
  ·refine aH hC (aS h (fun c1 h=>?_) fun c1 h=>qk (lE h));obtain⟨x2,hx2,h⟩:=bd h;exact eK hC [oV (aBa G hx2)] (lE h)
  rintro⟨x3,x4⟩ h;refine vj h (fun x_=>bU [(1,vI way),(2,vI v),(4,V.tp (nH e)),(7,V.tp (cN b)),(8,V.ref 20 0),(9,V.ref 21 0)] [(20,E.cells [vI 0,vI 0,cD,vI 0,vS [],cD,cD]),(21,E.cells [vI e.kind,vI e.num,vM rI x3,vI x4,vS x_.1,vM aB x_.2,cD])] [20,21]) (fun j5 h=>?_) ?_
  ·refine aH hC (aS h (fun c2 h=>?_) fun c2 h=>qk (lE h));obtain⟨x6,hx6,h⟩:=bd h;exact eK hC [oV (I7 G hx6)] (lE h)
  rintro⟨x7,x8⟩ h;refine qs (aH hC (qb (wL hC [.growc 21 6 22 93] (iO h (fun x_ g_=>bU [(1,vI way),(2,vI v),(4,V.tp (nH e)),(7,V.tp (cN b)),(8,V.ref 20 0),(9,V.ref 21 0),(10,vI x_.2)] [(20,E.cells [vI 0,vI 0,cD,vI 0,vS [],cD,cD]),(21,E.cells [vI e.kind,vI e.num,vM rI x3,vI x4,vS x7,vM aB x8,ms 22 g_ 7 aT x_.1]),(22,ar 93 g_ 7 aT x_.1)] [20,21,22]) 1 (lS) ?_))));rintro again12 ⟨x9,x10⟩ g11 h;refine qs (eQ hC [oN aT e.kids] (aS h (fun c3 h=>?_) fun c3 h=>?_))
  ·refine qk (cU ?_);obtain⟨x13,hx13,x14,hx14,x15,hx15,h⟩:=iL h;exact eD hC aV [.z (.row (eC x13)),oQ (fM aT hx13 (dJ x13)),oV (ih x13 way v b hx14),.z (.int 2),.z (.rows (List.map aT [x14])),oQ (qS x14),oA (aM aT hx15),oM 7 dO x9,oM 7 dO [x14]] (bX hC ⟨(x15,wr (x10+1)),(g11+1),h,lS⟩)
  cases h;exact cE (eQ hC [.z (.at 2),.z (.fz 22 [] [21])] zr)
theorem aHE{list}{way}{v}{b}{r}(h:B8 n list way v b=some r):VQ G 110 [] [vM aP list,vI way,vI v,V.agg (aO b)] (ms 0 1 9 aP r) [ar 95 1 9 aP r]:=by
 refine vq aL Tryz.func110 rfl fun w X β0 hC hg=>eQ hC [.z (.b (true))] (eQ hC [.z (.nat 20)] (qs (aH hC (qb (iO h (fun x_ g_=>bU [(0,vM aP list),(1,vI way),(2,vI v),(7,V.tp (cN b)),(9,ms 20 g_ 9 aP x_.1),(10,vI x_.2)] [(20,ar 95 g_ 9 aP x_.1)] [20]) 1 (lS) ?_)))));rintro again4 ⟨x1,x2⟩ g3 h;refine qs (eQ hC [oN aP list] (aS h (fun c1 h=>?_) fun c1 h=>?_))
 ·refine qk (cU ?_);obtain⟨x5,hx5,x6,hx6,x7,hx7,h⟩:=iL h;obtain⟨x8,hx8,h⟩:=bd h;exact eD hC aV [oR aP hx5,oV (I7 G hx6),oR aP hx5,oV (aHC G n x5.value way v b hx7),.z (.int 0),oA (aM aP hx8),oM 9 d5 x1,oM 9 d5 [(⟨x6,x7⟩:Stmt)]] (bX hC ⟨(x8,wr (x2+1)),(g3+1),h,lS⟩)
 obtain rfl:=so h;exact cE (aH hC (xE hC 8 20))
theorem aHA{x}{way}{v}{b}{r}(h:u6 n x way v b=some r):PQ G 111 [V.agg (nM x),vI way,vI v,V.agg (aO b)] (V.agg (nM r)):=by refine pq aL Tryz.func111 rfl fun w X hC=>eQ hC [.z (.b (true)),.z (.b (true)),.z (.nat 20)] (qs ?_);obtain⟨x1,hx1,x2,hx2,h⟩:=cM h;cases h;exact eD hC aV [oC [] [21] (zM G hx1),oC [] [22] (zM G hx2)] (wL hC [.fz 21 [] [20]] (wL hC [.fz 22 [] [20]] zr))
theorem aFA{x}{after}{way}{v}{b}{r}(h:w3 n x after way v b=some r):VQ G 45 [] [V.agg (wO x),vI after,vI way,vI v,V.agg (aO b)] (V.agg [ms 0 1 2 aC r.nest,ms 1 1 9 aP r.body]) [ar 64 1 2 aC r.nest,ar 95 1 9 aP r.body]:=by
 refine vq aL Tryz.func45 rfl fun w X β0 hC hg=>eQ hC [.z (.b (true)),.z (.b (true)),.z (.nat 20)] (qs ?_);obtain⟨x1,hx1,x2,hx2,x3,hx3,h⟩:=iL h;refine eD hC aV [.z (.nat 21),oA (B0 aC hx1),oM 2 cH x.nest,oA (aM aC hx2),oM 2 cH [],oM 2 cH x1,oC [] [22] (aHE G hx3),.z (.nat 23)] (qs (aH hC (qb (iO h (fun x_ g_=>bU [(2,vI way),(3,vI v),(5,V.tp (xZ x)),(9,V.tp (cN b)),(10,V.ref 20 0),(11,V.ref 23 0),(12,vI x_.2)] [(20,E.cells [cD,cD]),(21,ar 64 g_ 2 aC x_.1),(22,ar 95 1 9 aP x3),(23,E.cells [ms 21 g_ 2 aC x_.1,ms 22 1 9 aP x3])] [20,21,22,23]) 2 (lS) ?_))));rintro again7 ⟨x4,x5⟩ g6 h;refine qs (eQ hC [oN aC x.nest] (aS h (fun c1 h=>?_) fun c1 h=>?_))
 ·refine qk (cU ?_);obtain⟨x8,hx8,x9,hx9,x10,hx10,h⟩:=iL h;exact eD hC aV [oR aC hx8,oV (aHA G hx9),.z (.int 0),oA (aM aC hx10),oM 2 cH x4,oM 2 cH [x9]] (bX hC ⟨(x10,wr (x5+1)),(g6+1),h,lS⟩)
 cases h;exact cE (aH hC (wL hC [.rn 21 0 [] [20,23]] (wL hC [.rn 22 1 [] [20,23]] zw)))
theorem aHx{p}{part}{many}{parts}{r}(h:B3 n p part many parts=some r):PQ G 46 [V.agg (bV p),vI part,vI many,vM aD parts] (V.tup [V.agg (bV r.1),vB r.2]):=by
 refine pq aL Tryz.func46 rfl fun w X hC=>eQ hC [.z (.b (true)),.z (.nat 20)] ?_;obtain⟨x1,hx1,h⟩:=bd h;refine eQ hC [oC [] [21,22] (zO G hx1),.z (.nat 23)] (eQ hC [.z (.nat 24)] (qs (wL hC [.shd 22,.fz 22 [] [23]] ?_)));obtain⟨x2,hx2,x3,hx3,x4,hx4,h⟩:=iL h;obtain⟨x5,hx5,x6,hx6,h⟩:=cM h;refine eD hC aV [.z (.nat 25),oA (B0 aD hx2),oM 2 cG x1.parts,oA (aM aD hx3),oM 2 cG [],oM 2 cG x2,oA (aM aD hx4),oM 2 cG x3,oM 2 cG parts,oA (aKJ aD hx5),oM 2 cG x1.parts,oA (aM aD hx6),oM 2 cG x4,oM 2 cG x5] (qs ?_);obtain⟨x7,hx7,h⟩:=bd h;refine eQ hC [.z (.at 3),.z (.fz 21 [] [23,24]),.z (.at 3),.z (.fz 25 [] [24]),oV (dL G hx7)] (aS h (fun c1 h=>?_) fun c1 h=>?_)
 ·cases h;exact aH hC zr
 refine qk ?_;obtain⟨x8,hx8,h⟩:=bd h;cases h;exact eQ hC [oC [] [26,27] (zO G hx8)] (wL hC [.fz 26 [] [20]] (wL hC [.shd 27,.fz 27 [] [20]] zr))
theorem T9{p}{part}{loop}{r}(h:mM n p part loop=some r):PQ G 11 [V.agg (bV p),vI part,vI loop] (V.tup [V.agg (bV r.1),vB r.2]):=by
 refine pq aL Tryz.func11 rfl fun w X hC=>eQ hC [.z (.nat 20),.z (.nat 21)] ?_;obtain⟨x1,hx1,h⟩:=bd h;refine eQ hC [oV (J2 G hx1)] (qs (vj h (fun x_=>bU [(1,vI part),(2,vI loop),(3,V.ref 20 0),(6,V.ref 21 0),(41,vB x_)] [(20,E.cells (bV x1)),(21,E.cells [cD,cD])] [20,21]) (fun j2 h=>?_) fun x8 h=>?_))
 ·obtain⟨x3,hx3,h⟩:=bd h;refine aQ h (fun c1 h=>?_) fun c1 h=>eK hC ([oV (sU G hx3)]++rT 7 c1++sT 13) (lE h);obtain⟨x4,hx4,h⟩:=bd h;refine aQ h (fun c2 h=>?_) fun c2 h=>eK hC ([oV (sU G hx3)]++rF 5 c1++[oV (sU G hx4),oF c1,oF c1]++rT 13 c2) (lE h);obtain⟨x5,hx5,x6,hx6,x7,hx7,h⟩:=iL h;exact eK hC ([oV (sU G hx3)]++rF 5 c1++[oV (sU G hx4),oF c1,oF c1]++rF 4 c2++[oR aD hx5]++rF 5 c2++[oR aC hx6]++rF 3 c2++[oV (aHy G hx7),oF c2]) (lE h)
 refine aS h (fun c3 h=>?_) fun c3 h=>?_
 ·cases h;exact aH hC zr
 refine qk ?_;obtain⟨x9,hx9,h⟩:=bd h;refine eQ hC [oV (T7 G hx9)] (qs (aH hC (qb (gP h (fun x_=>bU [(1,vI part),(2,vI loop),(3,V.ref 20 0),(6,V.ref 21 0),(8,vM (rL rI) x9),(9,vI x_)] [(20,E.cells (bV x1)),(21,E.cells [cD,cD])] [20,21]) lS ?_))));rintro again11 x10 h;refine qs (eQ hC [oN (rL rI) x9] (aS h (fun c4 h=>?_) fun c4 h=>?_))
 ·refine qk (cU ?_);obtain⟨x12,hx12,x13,hx13,h⟩:=cM h;refine eQ hC [.z (.nat 22),oR (rL rI) hx12,oA (aM rI hx13),oI [],oI x12] ?_;obtain⟨x14,hx14,x15,hx15,x16,hx16,h⟩:=iL h;refine eQ hC [oR (rL rI) hx12,oR rI hx14,oQ (fB rI hx15),oX rI hx15,.z (.rows (x16.map rI)),.z (.len 10 (x16.map rI).length),oQ (str rI hx16),oQ (eS rI hx16)] ?_;obtain⟨x17,hx17,x18,hx18,x19,hx19,h⟩:=iL h;refine eQ hC [oR (rL rI) hx12,oR rI hx17,oQ (fB rI hx18),oX rI hx18,.z (.rows (x19.map rI)),.z (.len 10 (x19.map rI).length),oQ (str rI hx19),oQ (eS rI hx19)] ?_;obtain⟨x20,hx20,h⟩:=bd h;refine eQ hC [.z (.b (true)),oV (aHB G hx20)] (aS h (fun c5 h=>?_) fun c5 h=>qk (bX hC (lE h)));cases h;exact aH hC zr
 refine cE ?_;obtain⟨x21,hx21,x22,hx22,h⟩:=cM h;refine eQ hC [oR aD hx21,oC [] [22,23] (aFA G hx22),.z (.nat 24)] ?_;obtain⟨x23,hx23,h⟩:=bd h;refine eQ hC [oQ (fB aC hx23),oX aC hx23,.z (.nat 25)] (qs ?_);obtain⟨x24,hx24,x25,hx25,h⟩:=cM h;refine eD hC aV [oQ (fB aC hx24),oX aC hx24,oQ (fB aC hx23),oX aC hx23,.z (.rows (x25.map aC)),oQ (str aC hx25)] (wP hC [.lenc 24 0 (x25.map aC).length] (a1 (eS aC hx25)) ?_);obtain⟨x26,hx26,x27,hx27,h⟩:=cM h;refine eQ hC [oQ (fB aC hx26),oX aC hx26,.z (.rows (x27.map aC)),.z (.lenc 24 0 (x27.map aC).length),oQ (str aC hx27),oQ (eS aC hx27)] ?_;obtain⟨x28,hx28,h⟩:=bd h;cases h;exact eQ hC [.z (.at 7),.z (.fz 22 [] [24]),.z (.at 7),.z (.fz 23 [] [24]),.z (.int 0),oV (aHx G hx28)] zr
theorem zY(G:GS)(n:Nat)(s1:List Loop)(s2:List Loop)(eqF:FuncId)(eq:Loop→Loop→Option Bool)(heq: ∀(q0:Loop) (q1:Loop) r,eq q0 q1=some r→PQ G eqF [V.agg (nM q0),V.agg (nM q1)] (vB r)){r:Bool}(h:l6 n s1 s2 eq=some r):PQ G 112 [vM aC s1,vM aC s2,V.fn eqF []] (vB r):=by
 refine pq aL Tryz.func112 rfl fun w X hC=>aH hC (qs (eQ hC [oN aC s1,oN aC s2] (aS h (fun c1 h=>?_) fun c1 h=>?_)))
 ·cases h;exact aH hC zr
 refine qk (qs (eQ hC [oN aC s1] (qb (gP h (fun x_=>dA [(1,vM aC s2),(2,V.fn eqF []),(15,vM aC s1),(16,vI (s1.length:Int)),(17,vI x_)]) lS ?_))));rintro again2 x1 h;refine aH hC (kJ h (fun c2 h=>?_) fun c2 h=>?_)
 ·refine qk (cU ?_);obtain⟨x3,hx3,h⟩:=bd h;refine eQ hC [oR aC hx3,.z (.nat 20)] ?_;obtain⟨x4,hx4,h⟩:=bd h;refine eQ hC [oR aC hx4,.z (.nat 21)] ?_;obtain⟨x5,hx5,h⟩:=bd h;refine eQ hC [oV (heq x3 x4 _ hx5)] (aS h (fun c3 h=>?_) fun c3 h=>qk (bX hC (lE h)));cases h;exact aH hC zr
 cases h;exact cE (aH hC zr)
theorem fQ(G:GS)(n:Nat)(s1:List Affine)(s2:List Affine)(eqF:FuncId)(eq:Affine→Affine→Option Bool)(heq: ∀(q0:Affine) (q1:Affine) r,eq q0 q1=some r→PQ G eqF [V.agg (aO q0),V.agg (aO q1)] (vB r)){r:Bool}(h:dW n s1 s2 eq=some r):PQ G 114 [vM aB s1,vM aB s2,V.fn eqF []] (vB r):=by
 refine pq aL Tryz.func114 rfl fun w X hC=>aH hC (qs (eQ hC [oN aB s1,oN aB s2] (aS h (fun c1 h=>?_) fun c1 h=>?_)))
 ·cases h;exact aH hC zr
 refine qk (qs (eQ hC [oN aB s1] (qb (gP h (fun x_=>dA [(1,vM aB s2),(2,V.fn eqF []),(15,vM aB s1),(16,vI (s1.length:Int)),(17,vI x_)]) lS ?_))));rintro again2 x1 h;refine aH hC (kJ h (fun c2 h=>?_) fun c2 h=>?_)
 ·refine qk (cU ?_);obtain⟨x3,hx3,h⟩:=bd h;refine eQ hC [oR aB hx3,.z (.nat 20)] ?_;obtain⟨x4,hx4,h⟩:=bd h;refine eQ hC [oR aB hx4,.z (.nat 21)] ?_;obtain⟨x5,hx5,h⟩:=bd h;refine eQ hC [oV (heq x3 x4 _ hx5)] (aS h (fun c3 h=>?_) fun c3 h=>qk (bX hC (lE h)));cases h;exact aH hC zr
 cases h;exact cE (aH hC zr)
theorem eZ(G:GS)(n:Nat)(a:Affine)(b:Affine){r:Bool}(h:dF n a b=some r):PQ G 115 [V.agg (aO a),V.agg (aO b)] (vB r):=by
 refine pq aL Tryz.func115 rfl fun w X hC=>eQ hC [.z (.b (true)),.z (.b (true))] (vj h (fun x_=>dA [(4,vB x_)]) (fun j1 h=>?_) fun x3 h=>?_)
 ·obtain⟨x2,hx2,h⟩:=bd h;exact aQ h (fun c1 h=>eK hC ([oV (rJ G n a.coefs b.coefs hx2)]++rF 6 c1) (lE h)) fun c1 h=>eK hC ([oV (rJ G n a.coefs b.coefs hx2)]++rT 6 c1) (lE h)
 obtain rfl:=so h;exact zr
theorem aBx(G:GS)(n:Nat)(x:Loop)(y:Loop){r:Bool}(h:nW n x y=some r):PQ G 113 [V.agg (nM x),V.agg (nM y)] (vB r):=by
 refine pq aL Tryz.func113 rfl fun w X hC=>eQ hC [.z (.b (true)),.z (.b (true))] (vj h (fun x_=>dA [(4,vB x_)]) (fun j1 h=>?_) fun x4 h=>?_)
 ·obtain⟨x2,hx2,h⟩:=bd h;refine aQ h (fun c1 h=>eK hC ([oV (fQ G n x.lo y.lo 115 (fun q0 q1=>dF n q0 q1) (fun q0 q1 r h=>eZ G n q0 q1 h) hx2)]++rF 6 c1) (lE h)) fun c1 h=>?_;obtain⟨x3,hx3,h⟩:=bd h;exact eK hC ([oV (fQ G n x.lo y.lo 115 (fun q0 q1=>dF n q0 q1) (fun q0 q1 r h=>eZ G n q0 q1 h) hx2)]++rT 5 c1++[oV (fQ G n x.hi y.hi 115 (fun q0 q1=>dF n q0 q1) (fun q0 q1 r h=>eZ G n q0 q1 h) hx3),oT c1]) (lE h)
 obtain rfl:=so h;exact zr
theorem K3{a}{b}{r}(h:tX n a b=some r):PQ G 50 [vM aC a,vM aC b] (vB r):=by refine pq aL Tryz.func50 rfl fun w X hC=>aH hC ?_;obtain⟨x1,hx1,h⟩:=bd h;obtain rfl:=so h;exact eQ hC [oV (zY G n a b 113 (fun q0 q1=>nW n q0 q1) (fun q0 q1 r h=>aBx G n q0 q1 h) hx1)] zr
theorem zW(G:GS)(n:Nat)(s1:List Stmt)(s2:List Stmt)(eqF:FuncId)(eq:Stmt→Stmt→Option Bool)(heq: ∀(q0:Stmt) (q1:Stmt) r,eq q0 q1=some r→PQ G eqF [V.agg (fT q0),V.agg (fT q1)] (vB r)){r:Bool}(h:l4 n s1 s2 eq=some r):PQ G 51 [vM aP s1,vM aP s2,V.fn eqF []] (vB r):=by
 refine pq aL Tryz.func51 rfl fun w X hC=>aH hC (qs (eQ hC [oN aP s1,oN aP s2] (aS h (fun c1 h=>?_) fun c1 h=>?_)))
 ·cases h;exact aH hC zr
 refine qk (qs (eQ hC [oN aP s1] (qb (gP h (fun x_=>dA [(1,vM aP s2),(2,V.fn eqF []),(15,vM aP s1),(16,vI (s1.length:Int)),(17,vI x_)]) lS ?_))));rintro again2 x1 h;refine aH hC (kJ h (fun c2 h=>?_) fun c2 h=>?_)
 ·refine qk (cU ?_);obtain⟨x3,hx3,h⟩:=bd h;refine eQ hC [oR aP hx3,.z (.nat 20)] ?_;obtain⟨x4,hx4,h⟩:=bd h;refine eQ hC [oR aP hx4,.z (.nat 21)] ?_;obtain⟨x5,hx5,h⟩:=bd h;refine eQ hC [oV (heq x3 x4 _ hx5)] (aS h (fun c3 h=>?_) fun c3 h=>qk (bX hC (lE h)));cases h;exact aH hC zr
 cases h;exact cE (aH hC zr)
theorem lL{a}{b}{r}(h:lF n a b=some r):PQ G 116 [V.agg (cY a),V.agg (cY b)] (vB r):=by
 refine pq aL Tryz.func116 rfl fun w X hC=>eQ hC [.z (.b (true)),.z (.b (true))] (vj h (fun x_=>dA [(4,vB x_)]) (fun j1 h=>?_) fun x3 h=>?_)
 ·refine aQ h (fun c1 h=>eK hC (rF 6 c1) (lE h)) fun c1 h=>?_;obtain⟨x2,hx2,h⟩:=bd h;exact eK hC (rT 5 c1++[oV (fQ G n a.subs b.subs 115 (fun q0 q1=>dF n q0 q1) (fun q0 q1 r h=>eZ G n q0 q1 h) hx2),oT c1]) (lE h)
 obtain rfl:=so h;exact zr
theorem zZ(G:GS)(n:Nat)(s1:List Expr)(s2:List Expr)(eqF:FuncId)(eq:Expr→Expr→Option Bool)(heq: ∀(q0:Expr) (q1:Expr) r,eq q0 q1=some r→PQ G eqF [V.agg (eG q0),V.agg (eG q1)] (vB r)){r:Bool}(h:l7 n s1 s2 eq=some r):PQ G 195 [vM aT s1,vM aT s2,V.fn eqF []] (vB r):=by
 refine pq aL Tryz.func195 rfl fun w X hC=>aH hC (qs (eQ hC [oN aT s1,oN aT s2] (aS h (fun c1 h=>?_) fun c1 h=>?_)))
 ·cases h;exact aH hC zr
 refine qk (qs (eQ hC [oN aT s1] (qb (gP h (fun x_=>dA [(1,vM aT s2),(2,V.fn eqF []),(15,vM aT s1),(16,vI (s1.length:Int)),(17,vI x_)]) lS ?_))));rintro again2 x1 h;refine aH hC (kJ h (fun c2 h=>?_) fun c2 h=>?_)
 ·refine qk (cU ?_);obtain⟨x3,hx3,h⟩:=bd h;refine eQ hC [.z (.row (eC x3)),.z (.nat 20),oQ (fM aT hx3 (dJ x3))] ?_;obtain⟨x4,hx4,h⟩:=bd h;refine eQ hC [.z (.row (eC x4)),.z (.nat 21),oQ (fM aT hx4 (dJ x4))] ?_;obtain⟨x5,hx5,h⟩:=bd h;refine eQ hC [oV (heq x3 x4 _ hx5)] (aS h (fun c3 h=>?_) fun c3 h=>qk (bX hC (lE h)));cases h;exact aH hC zr
 cases h;exact cE (aH hC zr)
theorem aD8(G:GS): ∀(n:Nat) (a:Expr) (b:Expr) {r:Bool} (h:i_exprSame n a b=some r),PQ G 117 [V.agg (eG a),V.agg (eG b)] (vB r):=by
 intro n;induction n with
 |zero=>intro a b r h;rw [i_exprSame.eq_def] at h;cases h
 |succ n ih=>
  intro a b r h;rw [i_exprSame.eq_def] at h;dsimp only at h;refine pq aL Tryz.func117 rfl fun w X hC=>eQ hC [.z (.b (true)),.z (.b (true))] (vj h (fun x_=>dA [(4,vB x_)]) (fun j1 h=>?_) fun x5 h=>?_)
  ·refine aQ h (fun c1 h=>eK hC (rF 6 c1++sF 18) (lE h)) fun c1 h=>?_;refine aQ h (fun c2 h=>eK hC (rT 6 c1++rF 6 c2++sF 12) (lE h)) fun c2 h=>?_;obtain⟨x2,hx2,h⟩:=bd h;refine aQ h (fun c3 h=>eK hC (rT 6 c1++rT 5 c2++[oV (eZ G n a.index b.index hx2),oT c2]++rF 6 c3++sF 6) (lE h)) fun c3 h=>?_;obtain⟨x3,hx3,h⟩:=bd h;refine aQ h (fun c4 h=>eK hC (rT 6 c1++rT 5 c2++[oV (eZ G n a.index b.index hx2),oT c2]++rT 5 c3++[oV (lL G hx3),oT c3]++rF 6 c4) (lE h)) fun c4 h=>?_;obtain⟨x4,hx4,h⟩:=bd h;exact eK hC (rT 6 c1++rT 5 c2++[oV (eZ G n a.index b.index hx2),oT c2]++rT 5 c3++[oV (lL G hx3),oT c3]++rT 5 c4++[oV (zZ G n a.kids b.kids 117 (fun q0 q1=>i_exprSame n q0 q1) (fun q0 q1 r h=>ih q0 q1 h) hx4),oT c4]) (lE h)
  obtain rfl:=so h;exact zr
theorem aEa(G:GS)(n:Nat)(a:Stmt)(b:Stmt){r:Bool}(h:pL n a b=some r):PQ G 52 [V.agg (fT a),V.agg (fT b)] (vB r):=by
 refine pq aL Tryz.func52 rfl fun w X hC=>eQ hC [.z (.b (true)),.z (.b (true))] (vj h (fun x_=>dA [(4,vB x_)]) (fun j1 h=>?_) fun x4 h=>?_)
 ·obtain⟨x2,hx2,h⟩:=bd h;refine aQ h (fun c1 h=>eK hC ([oV (lL G hx2)]++rF 6 c1) (lE h)) fun c1 h=>?_;obtain⟨x3,hx3,h⟩:=bd h;exact eK hC ([oV (lL G hx2)]++rT 5 c1++[oV (aD8 G n a.value b.value hx3),oT c1]) (lE h)
 obtain rfl:=so h;exact zr
theorem K2(G:GS)(n:Nat)(x:Part)(y:Part){r:Bool}(h:gX n x y=some r):PQ G 49 [V.agg (wO x),V.agg (wO y)] (vB r):=by
 refine pq aL Tryz.func49 rfl fun w X hC=>eQ hC [.z (.b (true)),.z (.b (true))] (vj h (fun x_=>dA [(4,vB x_)]) (fun j1 h=>?_) fun x4 h=>?_)
 ·obtain⟨x2,hx2,h⟩:=bd h;refine aQ h (fun c1 h=>eK hC ([oV (K3 G hx2)]++rF 6 c1) (lE h)) fun c1 h=>?_;obtain⟨x3,hx3,h⟩:=bd h;exact eK hC ([oV (K3 G hx2)]++rT 5 c1++[oV (zW G n x.body y.body 52 (fun q0 q1=>pL n q0 q1) (fun q0 q1 r h=>aEa G n q0 q1 h) hx3),oT c1]) (lE h)
 obtain rfl:=so h;exact zr
theorem nK(G:GS)(n:Nat)(s1:List Arr)(s2:List Arr)(eqF:FuncId)(eq:Arr→Arr→Option Bool)(heq: ∀(q0:Arr) (q1:Arr) r,eq q0 q1=some r→PQ G eqF [V.agg [vS q0.name,vM rI q0.dims],V.agg [vS q1.name,vM rI q1.dims]] (vB r)){r:Bool}(h:lC n s1 s2 eq=some r):PQ G 53 [vM aR s1,vM aR s2,V.fn eqF []] (vB r):=by
 refine pq aL Tryz.func53 rfl fun w X hC=>aH hC (qs (eQ hC [oN aR s1,oN aR s2] (aS h (fun c1 h=>?_) fun c1 h=>?_)))
 ·cases h;exact aH hC zr
 refine qk (qs (eQ hC [oN aR s1] (qb (gP h (fun x_=>dA [(1,vM aR s2),(2,V.fn eqF []),(15,vM aR s1),(16,vI (s1.length:Int)),(17,vI x_)]) lS ?_))));rintro again2 x1 h;refine aH hC (kJ h (fun c2 h=>?_) fun c2 h=>?_)
 ·refine qk (cU ?_);obtain⟨x3,hx3,h⟩:=bd h;refine eQ hC [oR aR hx3,.z (.nat 20)] ?_;obtain⟨x4,hx4,h⟩:=bd h;refine eQ hC [oR aR hx4,.z (.nat 21)] ?_;obtain⟨x5,hx5,h⟩:=bd h;refine eQ hC [oV (heq x3 x4 _ hx5)] (aS h (fun c3 h=>?_) fun c3 h=>qk (bX hC (lE h)));cases h;exact aH hC zr
 cases h;exact cE (aH hC zr)
theorem zX(G:GS)(n:Nat)(s1:List Part)(s2:List Part)(eqF:FuncId)(eq:Part→Part→Option Bool)(heq: ∀(q0:Part) (q1:Part) r,eq q0 q1=some r→PQ G eqF [V.agg (wO q0),V.agg (wO q1)] (vB r)){r:Bool}(h:l5 n s1 s2 eq=some r):PQ G 54 [vM aD s1,vM aD s2,V.fn eqF []] (vB r):=by
 refine pq aL Tryz.func54 rfl fun w X hC=>aH hC (qs (eQ hC [oN aD s1,oN aD s2] (aS h (fun c1 h=>?_) fun c1 h=>?_)))
 ·cases h;exact aH hC zr
 refine qk (qs (eQ hC [oN aD s1] (qb (gP h (fun x_=>dA [(1,vM aD s2),(2,V.fn eqF []),(15,vM aD s1),(16,vI (s1.length:Int)),(17,vI x_)]) lS ?_))));rintro again2 x1 h;refine aH hC (kJ h (fun c2 h=>?_) fun c2 h=>?_)
 ·refine qk (cU ?_);obtain⟨x3,hx3,h⟩:=bd h;refine eQ hC [oR aD hx3,.z (.nat 20)] ?_;obtain⟨x4,hx4,h⟩:=bd h;refine eQ hC [oR aD hx4,.z (.nat 21)] ?_;obtain⟨x5,hx5,h⟩:=bd h;refine eQ hC [oV (heq x3 x4 _ hx5)] (aS h (fun c3 h=>?_) fun c3 h=>qk (bX hC (lE h)));cases h;exact aH hC zr
 cases h;exact cE (aH hC zr)
theorem qV(G:GS)(n:Nat)(x:Arr)(y:Arr){r:Bool}(h:gY n x y=some r):PQ G 47 [V.agg [vS x.name,vM rI x.dims],V.agg [vS y.name,vM rI y.dims]] (vB r):=by
 refine pq aL Tryz.func47 rfl fun w X hC=>eQ hC [.z (.b (true)),.z (.b (true))] (vj h (fun x_=>dA [(4,vB x_)]) (fun j1 h=>?_) fun x3 h=>?_)
 ·refine aQ h (fun c1 h=>eK hC (rF 6 c1) (lE h)) fun c1 h=>?_;obtain⟨x2,hx2,h⟩:=bd h;exact eK hC (rT 5 c1++[oV (rJ G n x.dims y.dims hx2),oT c1]) (lE h)
 obtain rfl:=so h;exact zr
theorem U5{a}{b}{r}(h:mR n a b=some r):PQ G 12 [V.agg (bV a),V.agg (bV b)] (vB r):=by
 refine pq aL Tryz.func12 rfl fun w X hC=>eQ hC [.z (.b (true)),.z (.b (true))] (aH hC (aH hC (vj h (fun x_=>dA [(4,vB x_)]) (fun j1 h=>?_) fun x4 h=>?_)))
 ·obtain⟨x2,hx2,h⟩:=bd h;refine aQ h (fun c1 h=>eK hC ([oV (nK G n a.arrays b.arrays 47 (fun q0 q1=>gY n q0 q1) (fun q0 q1 r h=>qV G n q0 q1 h) hx2)]++rF 7 c1) (lE h)) fun c1 h=>?_;obtain⟨x3,hx3,h⟩:=bd h;exact eK hC ([oV (nK G n a.arrays b.arrays 47 (fun q0 q1=>gY n q0 q1) (fun q0 q1 r h=>qV G n q0 q1 h) hx2)]++rT 6 c1++[oV (zX G n a.parts b.parts 49 (fun q0 q1=>gX n q0 q1) (fun q0 q1 r h=>K2 G n q0 q1 h) hx3),oT c1]) (lE h)
 obtain rfl:=so h;exact zr
theorem bH{p}{r}(h:bK n p=some r):VQ G 13 [] [V.agg (bV p)] (ms 0 1 3 aY r) [ar 105 1 3 aY r]:=by
 refine vq aL Tryz.func13 rfl fun w X β0 hC hg=>eQ hC [.z (.b (true))] ?_;obtain⟨x1,hx1,h⟩:=bd h;refine eQ hC [oC [] [20] (fA G hx1)] (qs (aH hC (aS h (fun c1 h=>?_) fun c1 h=>?_)))
 ·cases h;exact aH hC (wL hC [.grow 2 0 105] zw)
 cases h;exact qk (aH hC (xE hC 2 20))
theorem mD{a}{b}{r}(h:jV n a b=some r):PQ G 14 [vM rI a,vM rI b] (vB r):=by
 refine pq aL Tryz.func14 rfl fun w X hC=>aH hC (qs (eQ hC [oN rI a,oN rI b] (aS h (fun c1 h=>?_) fun c1 h=>?_)))
 ·cases h;exact aH hC zr
 refine qk (qs (aH hC (qb (gP h (fun x_=>dA [(0,vM rI a),(1,vM rI b),(5,vI x_)]) lS ?_))));rintro again2 x1 h;refine qs (eQ hC [oN rI a] (aS h (fun c2 h=>?_) fun c2 h=>?_))
 ·refine qk (cU (qs ?_));obtain⟨x3,hx3,x4,hx4,h⟩:=cM h;refine eD hC aV [oR rI hx3,oR rI hx4] (aS h (fun c3 h=>?_) fun c3 h=>qk (bX hC (lE h)));cases h;exact aH hC zr
 cases h;exact cE (aH hC zr)
theorem K1{p}{r}(h:gW n p=some r):PQ G 56 [V.agg (bV p)] (vI r):=by
 refine pq aL Tryz.func56 rfl fun w X hC=>eQ hC [.z (.b (true))] (aH hC (qs (eQ hC [oN aR p.arrays] (qb (gP h (fun x_=>dA [(3,vI x_.1),(7,vM aR p.arrays),(8,vI (p.arrays.length:Int)),(9,vI x_.2)]) lS ?_)))));rintro again3 ⟨x1,x2⟩ h;refine aH hC (kJ h (fun c1 h=>?_) fun c1 h=>?_)
 ·refine qk (cU ?_);obtain⟨x4,hx4,h⟩:=bd h;refine eQ hC [oR aR hx4,.z (.nat 20)] ?_;obtain⟨x5,hx5,h⟩:=bd h;exact eK hC [oV (wN G hx5)] (bX hC (lE h))
 obtain rfl:=so h;exact cE (aH hC zr)
theorem aHV{list}{r}(h:H1 n list=some r):VQ G 58 [] [vM rB list] (ms 0 1 1 rI r) [ar 3 1 1 rI r]:=by
 refine vq aL Tryz.func58 rfl fun w X β0 hC hg=>aH hC (aH hC (qs (eQ hC [oN rB list] (qb (wL hC [.grow 3 20 3] ?_)))));refine iO h (fun x_ g_=>bU [(3,ms 20 g_ 1 rI x_.1),(6,vM rB list),(7,vI (list.length:Int)),(8,vI x_.2)] [(20,ar 3 g_ 1 rI x_.1)] [20]) 1 (lS) ?_;rintro again4 ⟨x1,x2⟩ g3 h;refine aH hC (kJ h (fun c1 h=>?_) fun c1 h=>?_)
 ·refine qk ?_;obtain⟨j5,hj5,h⟩:=xU h;refine iN (γ:=Nat) (j:=j5) (r:=r) (fun x_ g_=>bU [(3,ms 20 g_ 1 rI x_),(6,vM rB list),(7,vI (list.length:Int)),(8,vI x2)] [(20,ar 3 g_ 1 rI x_)] [20]) ?_ ?_
  ·refine qb ?_;obtain⟨x6,hx6,h⟩:=bd h;refine eQ hC [oR rB hx6] (aH hC (aS h (fun c2 h=>?_) fun c2 h=>qk ⟨x1,g3,h,lS⟩));obtain⟨x7,hx7,h⟩:=bd h;exact eK hC [.z (.int 0),oA (aM rI hx7),oI x1,oI [x2]] ⟨x7,(g3+1),h,lS⟩
  rintro x8 g9 h;subst hj5;exact bX hC ⟨(x8,wr (x2+1)),g9,h,lS⟩
 obtain rfl:=so h;exact cE (aH hC (xE hC 2 20))
theorem bQ{p}{r}(h:bC n p=some r):VQ G 15 [] [V.agg (bV p)] (ms 0 1 1 rI r) [ar 3 1 1 rI r]:=by
 refine vq aL Tryz.func15 rfl fun w X β0 hC hg=>eQ hC [.z (.b (true))] ?_;obtain⟨x1,hx1,h⟩:=bd h;refine eQ hC [oC [] [20] (fA G hx1)] (qs (aH hC (aS h (fun c1 h=>?_) fun c1 h=>?_)))
 ·obtain rfl:=so h;exact aH hC (wL hC [.grow 2 0 3] zw)
 refine qk ?_;obtain⟨x2,hx2,x3,hx3,h⟩:=cM h;refine eQ hC [oV (K1 G hx2),.z (.nat 21),oA (aLg rB hx3),oQ (F0 hx3).1] (qs (eQ hC [oN aY x1.1] (qb (iO h (fun x_ g_=>bU [(1,V.tp (fZ p)),(5,ms 21 g_ 1 rB x_.1),(20,ms 20 1 3 aY x1.1),(21,vI (x1.1.length:Int)),(22,vI x_.2)] [(20,ar 105 1 3 aY x1.1),(21,ar 4 g_ 1 rB x_.1)] [20,21]) 1 (lS) ?_))));rintro again7 ⟨x4,x5⟩ g6 h;refine aH hC (kJ h (fun c2 h=>?_) fun c2 h=>?_)
 ·refine qk (cU ?_);obtain⟨x8,hx8,h⟩:=bd h;refine eQ hC [oQ (fB aY hx8),oX aY hx8,.z (.nat 22)] ?_;obtain⟨x9,hx9,h⟩:=bd h;refine eQ hC [oC [] [23] (nL G hx9)] ?_;obtain⟨x10,hx10,x11,hx11,h⟩:=cM h;exact eK hC [oQ (fB rB hx10),oX rB hx10,.z (.rows (x11.map rB)),.z (.len 5 (x11.map rB).length),oQ (str rB hx11),oQ (eS rB hx11)] (bX hC ⟨(x11,wr (x5+1)),g6,h,lS⟩)
 refine cE ?_;obtain⟨x12,hx12,h⟩:=bd h;obtain rfl:=so h;exact eQ hC [.z (.at 2),.z (.fz 21 [5,36] []),oC [] [22] (aHV G hx12)] (xE hC 2 22)
theorem wC(G:GS)(n:Nat)(code:List UInt8){r:Bool}(h:kN n code=some r):PQ G 3 [vM rY code] (vB r):=by
 refine pq aL Tryz.func3 rfl fun w X hC=>aH hC (qs (eQ hC [oN rY code] (aS h (fun c1 h=>?_) fun c1 h=>?_)))
 ·obtain rfl:=so h;exact aH hC zr
 refine qk ?_;obtain⟨x1,hx1,h⟩:=bd h;refine eQ hC [oV (xX G hx1),.z (.nat 20)] ?_;obtain⟨x2,hx2,h⟩:=bd h;refine eQ hC [oV (U6 G hx2),.z (.nat 21)] ?_;obtain⟨x3,hx3,h⟩:=bd h;refine eQ hC [oV (U3 G hx3),.z (.nat 22)] ?_;obtain⟨x4,hx4,h⟩:=bd h;refine eQ hC [oV (T9 G hx4),.z (.nat 23)] (qs (vj h (fun x_=>bU [(3,V.ref 20 0),(6,V.ref 21 0),(7,vB x2.2),(8,V.ref 22 0),(9,vB x3.2),(51,vB x_)] [(20,E.cells (bV x1.1)),(21,E.cells (bV x2.1)),(22,E.cells (bV x3.1)),(23,E.cells (bV x4.1))] [20,21,22,23]) (fun j5 h=>?_) fun x7 h=>?_))
 ·refine aQ h (fun c2 h=>?_) fun c2 h=>eK hC (rT 5 c2) (lE h);obtain⟨x6,hx6,h⟩:=bd h;exact eK hC (rF 3 c2++[oV (U5 G hx6),oF c2,oF c2]) (lE h)
 refine aS h (fun c3 h=>?_) fun c3 h=>?_
 ·obtain rfl:=so h;exact aH hC zr
 refine qk ?_;obtain⟨x8,hx8,h⟩:=bd h;refine eQ hC [oC [] [24] (bH G hx8),oN aY x8] (vj h (fun x_=>bU [(2,vB x_)] [(20,E.cells (bV x1.1)),(21,E.cells (bV x2.1)),(22,E.cells (bV x3.1)),(23,E.cells (bV x4.1)),(24,ar 105 1 3 aY x8)] [20,21,22,23,24]) (fun j9 h=>?_) fun x22 h=>?_)
 ·refine aQ h (fun c4 h=>?_) fun c4 h=>?_
  ·obtain⟨x10,hx10,h⟩:=bd h;refine aQ h (fun c5 h=>eD hC aV ([oF c4,oF c4,oC [] [25] (bH G hx10),oF c4,oN aY x10]++rF 3 c4++rF 5 c5++[oF c4,oF c5,oF c4]++sF 5) (lE h)) fun c5 h=>?_;obtain⟨x11,hx11,x12,hx12,x13,hx13,h⟩:=iL h;refine aQ h (fun c6 h=>?_) fun c6 h=>?_
   ·exact eD hC aV ([oF c4,oF c4,oC [] [25] (bH G hx10),oF c4,oN aY x10]++rF 3 c4++[oT c5,oT c5,oC [] [26] (bQ G hx11),oT c5,oT c5,oC [] [27] (bQ G hx12),oT c5,.z (.b (true)),oV (mD G hx13),oF c4,oT c5,oF c4]++rF 5 c6) (lE h)
   refine aQ h (fun c7 h=>?_) fun c7 h=>?_
   ·obtain⟨x14,hx14,h⟩:=bd h;refine aQ h (fun c8 h=>?_) fun c8 h=>?_
    ·exact eD hC aV ([oF c4,oF c4,oC [] [25] (bH G hx10),oF c4,oN aY x10]++rF 3 c4++[oT c5,oT c5,oC [] [26] (bQ G hx11),oT c5,oT c5,oC [] [27] (bQ G hx12),oT c5,.z (.b (true)),oV (mD G hx13),oF c4,oT c5,oF c4]++rT 3 c6++[oF c7,oF c7,oC [] [28] (bH G hx14),oF c7,oN aY x14]++rF 3 c7++rF 5 c8++[oF c7,oF c8,oT c6,oF c7,oT c6]) (lE h)
    obtain⟨x15,hx15,x16,hx16,x17,hx17,h⟩:=iL h;exact eD hC aV ([oF c4,oF c4,oC [] [25] (bH G hx10),oF c4,oN aY x10]++rF 3 c4++[oT c5,oT c5,oC [] [26] (bQ G hx11),oT c5,oT c5,oC [] [27] (bQ G hx12),oT c5,.z (.b (true)),oV (mD G hx13),oF c4,oT c5,oF c4]++rT 3 c6++[oF c7,oF c7,oC [] [28] (bH G hx14),oF c7,oN aY x14]++rF 3 c7++[oT c8,oT c8,oC [] [29] (bQ G hx15),oT c8,oT c8,oC [] [30] (bQ G hx16),oT c8,.z (.b (true)),oV (mD G hx17),oF c7,oT c8,oT c6,oF c7,oT c6]) (lE h)
   exact eD hC aV ([oF c4,oF c4,oC [] [25] (bH G hx10),oF c4,oN aY x10]++rF 3 c4++[oT c5,oT c5,oC [] [26] (bQ G hx11),oT c5,oT c5,oC [] [27] (bQ G hx12),oT c5,.z (.b (true)),oV (mD G hx13),oF c4,oT c5,oF c4]++rT 3 c6++rT 7 c7++[oT c6,oT c7,oT c6]) (lE h)
  refine aQ h (fun c9 h=>?_) fun c9 h=>eD hC aV (rT 8 c4++[eT,eT,eT]++rT 7 c9++[eT,oT c9,eT]) (lE h);obtain⟨x18,hx18,h⟩:=bd h;refine aQ h (fun c10 h=>eD hC aV (rT 8 c4++[eT,eT,eT,oF c9,oF c9,oC [] [25] (bH G hx18),oF c9,oN aY x18]++rF 3 c9++rF 5 c10++[oF c9,oF c10,eT,oF c9,eT]) (lE h)) fun c10 h=>?_;obtain⟨x19,hx19,x20,hx20,x21,hx21,h⟩:=iL h;exact eD hC aV (rT 8 c4++[eT,eT,eT,oF c9,oF c9,oC [] [25] (bH G hx18),oF c9,oN aY x18]++rF 3 c9++[oT c10,oT c10,oC [] [26] (bQ G hx19),oT c10,oT c10,oC [] [27] (bQ G hx20),oT c10,.z (.b (true)),oV (mD G hx21),oF c9,oT c10,eT,oF c9,eT]) (lE h)
 obtain rfl:=so h;exact zr
end Go.Lift
