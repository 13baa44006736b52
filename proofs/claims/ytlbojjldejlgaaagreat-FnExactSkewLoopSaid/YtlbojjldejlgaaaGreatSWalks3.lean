/- The walks: the code computes what the plain functions say. -/
import Derived.Test.YtlbojjldejlgaaaGreatSModels
import Derived.Test.YtlbojjldejlgaaaGreatSWalks2
set_option maxRecDepth 10000
set_option linter.unusedVariables false
namespace Go.Lift
open Go Go.Proofs
variable (G:GS) {n:Nat}
theorem aCi(G:GS)(n:Nat)(p:Prog)(part:Int)(loop:Int){r:Prog×Bool}(h:mA n p part loop=some r)(hr:r.2=true):VQ G 35 [] [V.agg (cT p),vI part,vI loop] (V.tup [V.agg [ms 0 1 2 aJ r.1.arrays,ms 1 1 2 aF r.1.parts],V.eref 1 1 2 (0+Int.toNat part) 0,vB true]) [ar 98 1 2 aJ r.1.arrays,E.tree fJ 0 1 (r.1.parts.map aF) []]:=by
 refine vq aQ Tryz.func35 rfl fun w X β0 hC hg=>rq hC [.z (.b (true)),.z (.nat 20)] [3,6,7,8] [(3,V.tp (cJ p)),(6,V.ref 20 0)] [(20,sc [aT,aT])] [(20,true)] (qs (vj h (fun x_=>dE [(1,vI part),(3,V.tp (cJ p)),(6,V.ref 20 0),(29,vB x_)] [(20,E.cells [aT,aT])] [20]) (fun j1 h=>?_) fun x5 h=>?_))
 ·obtain⟨x2,hx2,h⟩:=bd h;refine bF h (fun c1 h=>?_) fun c1 h=>bU hC ([oV (bX G hx2)]++rT 5 c1++sT 5) (fr 10 20) [(29,vB true)] (lE h);obtain⟨x3,hx3,h⟩:=bd h;refine bF h (fun c2 h=>?_) fun c2 h=>bU hC ([oV (bX G hx2)]++rF 3 c1++[oV (bW G hx3),oF c1,oF c1]++rT 5 c2) (fr 10 20) [(29,vB true)] (lE h);refine bF h (fun c3 h=>bU hC ([oV (bX G hx2)]++rF 3 c1++[oV (bW G hx3),oF c1,oF c1]++rF 3 c2++rF 5 c3++[oF c2,oF c3,oF c2]) (fr 10 20) [(29,vB false)] (lE h)) fun c3 h=>?_;obtain⟨x4,hx4,h⟩:=bd h;exact bU hC ([oV (bX G hx2)]++rF 3 c1++[oV (bW G hx3),oF c1,oF c1]++rF 3 c2++rT 4 c3++[oV (nE G hx4),oT c3,oF c2,oT c3,oF c2]) (fr 10 20) [(29,vB (!x4))] (lE h)
 refine bA h (fun c4 h=>?_) fun c4 h=>?_
 ·cases h;cases hr
 refine qk ?_;obtain⟨x6,hx6,x7,hx7,h⟩:=dO h;cases h;exact rq hC [oC [] [21,22] (xI G hx6),.z (.nat 23)] [9,31,32] [(9,V.ref 23 0)] [(21,some (ar 98 1 2 aJ x6.arrays)),(22,some (E.tree fJ 0 1 (x6.parts.map aF) [])),(23,sc [ms 21 1 2 aJ x6.arrays,ms 22 1 2 aF x6.parts])] [(21,true),(22,true),(23,true)] (qw (lk hC [.rn 21 0 [] [23]] [] [] [(23,sc [ms 0 1 2 aJ x6.arrays,ms 22 1 2 aF x6.parts]),(21,none),(0,some (ar 98 1 2 aJ x6.arrays))] [(0,true)]) (qw (lk hC [.rn 22 1 [] [23]] [] [] [(23,sc [ms 0 1 2 aJ x6.arrays,ms 1 1 2 aF x6.parts]),(22,none),(1,some (E.tree fJ 0 1 (x6.parts.map aF) []))] [(1,true)]) (qs (dk hC bI [oQ (kX aF hx7)] [7,8,33,34,35,36,37] [(7,V.eref 1 1 2 (0+Int.toNat part) 0),(8,vB true)] [(20,sc [ms 0 1 2 aJ x6.arrays,ms 1 1 2 aF x6.parts])] [] zw))))
theorem aCj(G:GS)(n:Nat)(p:Prog)(part:Int)(loop:Int){r:Prog×Bool}(h:mA n p part loop=some r)(hr:r.2=false):PQ G 35 [V.agg (cT p),vI part,vI loop] (V.tup [V.agg [vM aJ [],vM aF []],V.t T.nilP,vB false]):=by
 refine pq aQ Tryz.func35 rfl fun w X hC=>rq hC [.z (.b (true)),.z (.nat 20)] [3,6,7,8] [(3,V.tp (cJ p)),(6,V.ref 20 0)] [(20,sc [aT,aT])] [(20,true)] (qs (vj h (fun x_=>dE [(1,vI part),(3,V.tp (cJ p)),(6,V.ref 20 0),(29,vB x_)] [(20,E.cells [aT,aT])] [20]) (fun j1 h=>?_) fun x5 h=>?_))
 ·obtain⟨x2,hx2,h⟩:=bd h;refine bF h (fun c1 h=>?_) fun c1 h=>bU hC ([oV (bX G hx2)]++rT 5 c1++sT 5) (fr 10 20) [(29,vB true)] (lE h);obtain⟨x3,hx3,h⟩:=bd h;refine bF h (fun c2 h=>?_) fun c2 h=>bU hC ([oV (bX G hx2)]++rF 3 c1++[oV (bW G hx3),oF c1,oF c1]++rT 5 c2) (fr 10 20) [(29,vB true)] (lE h);refine bF h (fun c3 h=>bU hC ([oV (bX G hx2)]++rF 3 c1++[oV (bW G hx3),oF c1,oF c1]++rF 3 c2++rF 5 c3++[oF c2,oF c3,oF c2]) (fr 10 20) [(29,vB false)] (lE h)) fun c3 h=>?_;obtain⟨x4,hx4,h⟩:=bd h;exact bU hC ([oV (bX G hx2)]++rF 3 c1++[oV (bW G hx3),oF c1,oF c1]++rF 3 c2++rT 4 c3++[oV (nE G hx4),oT c3,oF c2,oT c3,oF c2]) (fr 10 20) [(29,vB (!x4))] (lE h)
 refine bA h (fun c4 h=>?_) fun c4 h=>?_
 ·cases h;exact rqa hC [7,8,30] [(7,V.t T.nilP),(8,vB false)] [(20,sc [aT,aT])] [] zr
 obtain⟨x6,hx6,x7,hx7,h⟩:=dO h;cases h;cases hr
theorem aDV{n_a0}{r}(h:wU n n_a0=some r):PQ G 36 [vI n_a0] (vB r):=by refine pq aQ Tryz.func36 rfl fun w X hC=>bD hC [2] ?_;obtain⟨x1,hx1,h⟩:=bd h;obtain rfl:=so h;exact aV hC [oV (bH G hx1)] [2,3,4] [(2,vB x1)] zr
theorem lO(G:GS)(n:Nat)(rows:List Loop)(i:Int)(l:Loop)(hl:ix rows i=some l)(g:Nat)(fF:FuncId)(fC0:List T)(fC1:List T)(f:Affine→Option Affine)(hf: ∀(q0:Affine) r,f q0=some r→PQ G fF [V.agg (aL q0),V.tp fC0,V.tp fC1] (V.agg (aL r))){l':Loop}{rows':List Loop}(h:iO n l f=some l')(hr:dC rows i l'=some rows'):
  VQ G 37 [E.tree fJ 1 g (rows.map aD) []] [V.eref 0 g 2 (0+Int.toNat i) 0,V.fn fF [V.tp fC0,V.tp fC1]] (V.tup []) [E.tree fJ 1 g (List.map aD rows') []]:=by
 refine vq aQ Tryz.func37 rfl fun w X β0 hC hg=>qs (dk hC bI [.z (.foc 0 21 (0+Int.toNat i) 0 (aD l)),.z (.foc 0 22 (0+Int.toNat i) 1 (aD l)),oX aD hl,oX aD hl,.z (.lt 23 fJ 4),.z (.nat 2),oQ (eV aD hl),oQ (eV aD hl),oQ (Eq.refl 2)] (fr 8 11) [(16,V.msl 23 1 1 0 2),(17,vI 2),(18,vI 0)] [(0,some (E.tree fJ 1 g (rows.map aD) [((0+Int.toNat i),1,ms 22 1 2 aA l.hi),((0+Int.toNat i),0,ms 21 1 2 aA l.lo)])),(21,some (E.tree fJ 3 1 (l.lo.map aA) [])),(22,some (E.tree fJ 3 1 (l.hi.map aA) [])),(23,some (E.tree fJ 4 1 (List.replicate 2 [T.sl []]) [(0,0,ms 21 1 2 aA l.lo),(1,0,ms 22 1 2 aA l.hi)]))] [(21,true),(22,true),(23,true)] (qw (lk hC [.shd 21,.shd 22] [] [] [(21,some (ar 46 1 2 aA l.lo)),(22,some (ar 46 1 2 aA l.hi))] []) (qb (iH h (fun x_=>dE [(1,V.fn fF [V.tp fC0,V.tp fC1]),(16,V.msl 23 1 1 0 2),(17,vI 2),(18,vI x_.2)] [(0,E.tree fJ 1 g (rows.map aD) [((0+Int.toNat i),1,ms 22 1 2 aA l.hi),((0+Int.toNat i),0,ms 21 1 2 aA l.lo)]),(23,E.tree fJ 4 1 (List.replicate 2 [T.sl []]) [(0,0,ms 21 1 2 aA l.lo),(1,0,ms 22 1 2 aA l.hi)]),(21,ar 46 1 2 aA x_.1.lo),(22,ar 46 1 2 aA x_.1.hi)] [0,21,22,23]) lS ?_))));rintro again1 ⟨x,q⟩ h;obtain⟨s1,hs1,h⟩:=bd h;obtain⟨s2,hs2,h⟩:=bd h;refine aG hC [19] [(19,vD (q<2))] (n9 h (fun c1 h=>?_) fun c1 h=>?_)
 ·refine qk (cP (qs (bF h (fun c2 h=>?_) fun c2 h=>?_)))
  ·refine bF h (fun c3 h=>nof h) fun c3 h=>?_;have e:=of_decide_eq_true c3;subst e;refine bU hC [.z (.int 1),.z (.row [T.sl []]),oQ (And.intro (by decide) (by decide):(0:Int)≤1∧(1:Int)<((2:Nat):Int)),oQ (Eq.refl (some [T.sl []]))] [5,20,21] [(5,ms 22 1 2 aA l.hi)] (qw (sD hC [.len 5 (x.hi.map aA).length] [5] [(5,ms 22 1 2 aA x.hi)] [] [] (a1 (rN aA hs2)) (by kernel_rfl)) (aV hC [oN aA x.hi] [22,23,24] [(22,ms 22 1 2 aA x.hi),(23,vI (x.hi.length:Int)),(24,vI 0)] (qb (iH h (fun x_=>dE [(1,V.fn fF [V.tp fC0,V.tp fC1]),(16,V.msl 23 1 1 0 2),(17,vI 2),(18,vI 1),(5,ms 22 1 2 aA x_.1),(22,ms 22 1 2 aA x_.1),(23,vI (x.hi.length:Int)),(24,vI x_.2)] [(0,E.tree fJ 1 g (rows.map aD) [((0+Int.toNat i),1,ms 22 1 2 aA l.hi),((0+Int.toNat i),0,ms 21 1 2 aA l.lo)]),(23,E.tree fJ 4 1 (List.replicate 2 [T.sl []]) [(0,0,ms 21 1 2 aA l.lo),(1,0,ms 22 1 2 aA l.hi)]),(21,ar 46 1 2 aA x.lo),(22,ar 46 1 2 aA x_.1)] [0,21,22,23]) lS ?_))));rintro again2 ⟨y,k⟩ h;refine aG hC [25] [(25,vD (k<(x.hi.length:Int)))] (n9 h (fun c4 h=>?_) fun c4 h=>cK (aZ hC [18,36] [(18,vI (wr (1+1)))] (lE h)));refine qk (cP ?_);obtain⟨x3,hx3,h⟩:=bd h;refine rq hC [oQ (kX aA hx3),oX aA hx3,.z (.nat 24)] [6,7,26,27,28] [(6,vI k),(7,V.ref 24 0)] [(24,some (E.cells (aL x3)))] [(24,true)] ?_;obtain⟨x4,hx4,x5,hx5,h⟩:=dO h;exact rk hC [oV (hf x3 _ hx4),oQ (kX aA hx3),oX aA hx3,.z (.rows (x5.map aA)),.z (.len 5 (x5.map aA).length),.z (.len 22 (x5.map aA).length),oQ (str aA hx5),oQ (jD aA hx5),oQ (jD aA hx5)] [5,22,29,30,31,32,33,34] [(5,ms 22 1 2 aA x5),(22,ms 22 1 2 aA x5)] [(22,some (ar 46 1 2 aA x5))] [] (aZ hC [24,35] [(24,vI (wr (k+1)))] (lE h))
  have e:=of_decide_eq_true c2;subst e;refine bU hC [.z (.int 0),.z (.row [T.sl []]),oQ (And.intro (by decide) (by decide):(0:Int)≤0∧(0:Int)<((2:Nat):Int)),oQ (Eq.refl (some [T.sl []]))] [5,20,21] [(5,ms 21 1 2 aA l.lo)] (qw (sD hC [.len 5 (x.lo.map aA).length] [5] [(5,ms 21 1 2 aA x.lo)] [] [] (a1 (rN aA hs1)) (by kernel_rfl)) (aV hC [oN aA x.lo] [22,23,24] [(22,ms 21 1 2 aA x.lo),(23,vI (x.lo.length:Int)),(24,vI 0)] (qb (iH h (fun x_=>dE [(1,V.fn fF [V.tp fC0,V.tp fC1]),(16,V.msl 23 1 1 0 2),(17,vI 2),(18,vI 0),(5,ms 21 1 2 aA x_.1),(22,ms 21 1 2 aA x_.1),(23,vI (x.lo.length:Int)),(24,vI x_.2)] [(0,E.tree fJ 1 g (rows.map aD) [((0+Int.toNat i),1,ms 22 1 2 aA l.hi),((0+Int.toNat i),0,ms 21 1 2 aA l.lo)]),(23,E.tree fJ 4 1 (List.replicate 2 [T.sl []]) [(0,0,ms 21 1 2 aA l.lo),(1,0,ms 22 1 2 aA l.hi)]),(21,ar 46 1 2 aA x_.1),(22,ar 46 1 2 aA x.hi)] [0,21,22,23]) lS ?_))));rintro again2 ⟨y,k⟩ h;refine aG hC [25] [(25,vD (k<(x.lo.length:Int)))] (n9 h (fun c4 h=>?_) fun c4 h=>cK (aZ hC [18,36] [(18,vI (wr (0+1)))] (lE h)));refine qk (cP ?_);obtain⟨x3,hx3,h⟩:=bd h;refine rq hC [oQ (kX aA hx3),oX aA hx3,.z (.nat 24)] [6,7,26,27,28] [(6,vI k),(7,V.ref 24 0)] [(24,some (E.cells (aL x3)))] [(24,true)] ?_;obtain⟨x4,hx4,x5,hx5,h⟩:=dO h;exact rk hC [oV (hf x3 _ hx4),oQ (kX aA hx3),oX aA hx3,.z (.rows (x5.map aA)),.z (.len 5 (x5.map aA).length),.z (.len 22 (x5.map aA).length),oQ (str aA hx5),oQ (jD aA hx5),oQ (jD aA hx5)] [5,22,29,30,31,32,33,34] [(5,ms 21 1 2 aA x5),(22,ms 21 1 2 aA x5)] [(21,some (ar 46 1 2 aA x5))] [] (aZ hC [24,35] [(24,vI (wr (k+1)))] (lE h))
 obtain rfl:=so h;exact qw (sD hC [.tre 21 fJ 3,.tre 22 fJ 3,.unf 0 22 (aD l) (List.map aD (rows.set i.toNat (⟨l.lo,x.hi⟩:Loop))),.unf 0 21 (aD (⟨l.lo,x.hi⟩:Loop)) (List.map aD rows')] [] [] [(21,none),(22,none),(0,some (E.tree fJ 1 g (List.map aD rows') []))] [] (a8 (rN aA hs2) (Eq.refl fJ) (eV aD hl) (aGI aD (aBk hr (⟨l.lo,x.hi⟩:Loop)) rfl) (rN aA hs1) (Eq.refl fJ) (eV aD (aG6 hr (⟨l.lo,x.hi⟩:Loop))) (aGI aD (aBj hr (⟨l.lo,x.hi⟩:Loop)) rfl)) (by kernel_rfl)) (cK eW)
theorem aAR{n_a0}{r}(h:I7 n n_a0=some r):VQ G 53 [] [vI n_a0] (V.agg [ms 0 1 1 rI r.coefs,vI r.const]) [ar 3 1 1 rI r.coefs]:=by refine vq aQ Tryz.func53 rfl fun w X β0 hC hg=>rq hC [.z (.nat 20)] [2] [(2,V.ref 20 0)] [(20,sc [aT,vI 0])] [(20,true)] ?_;obtain⟨x1,hx1,h⟩:=bd h;cases h;exact gW hC [.z (.nat 21),oA (r8 rI hx1),oQ (jN hx1).1] [3,4,5] [(21,some (ar 3 1 1 rI x1)),(20,sc [ms 21 1 1 rI x1,vI n_a0])] [(21,true)] (qw (lk hC [.rn 21 0 [] [20]] [] [] [(20,sc [ms 0 1 1 rI x1,vI n_a0]),(21,none),(0,some (ar 3 1 1 rI x1))] [(0,true)]) zw)
theorem qU{v}{k}{r}(h:m5 n v k=some r):VQ G 40 [] [vI v,vI k] (V.agg [ms 0 1 1 rI r.coefs,vI r.const]) [ar 3 1 1 rI r.coefs]:=by refine vq aQ Tryz.func40 rfl fun w X β0 hC hg=>rq hC [.z (.nat 20)] [4] [(4,V.ref 20 0)] [(20,sc [aT,vI 0])] [(20,true)] ?_;obtain⟨x1,hx1,h⟩:=bd h;refine rq hC [oC [] [21] (aAR G hx1),.z (.nat 22)] [5,6] [(5,V.ref 22 0)] [(21,some (ar 3 1 1 rI x1.coefs)),(22,sc [ms 21 1 1 rI x1.coefs,vI x1.const])] [(21,true),(22,true)] ?_;obtain⟨x2,hx2,x3,hx3,h⟩:=dO h;cases h;exact gW hC [oQ (kX rI hx2),oX rI hx2,.z (.rows (x3.map rI)),.z (.lenc 22 0 (x3.map rI).length),oQ (str rI hx3),oQ (jD rI hx3)] (fr 7 5) [(21,some (ar 3 1 1 rI x3)),(22,sc [ms 21 1 1 rI x3,vI x1.const])] [] (iJ hC [12] [(20,sc [ms 21 1 1 rI x3,vI x1.const])] [] (qw (lk hC [.rn 21 0 [] [20,22]] [] [] [(20,sc [ms 0 1 1 rI x3,vI x1.const]),(22,sc [ms 0 1 1 rI x3,vI x1.const]),(21,none),(0,some (ar 3 1 1 rI x3))] [(0,true)]) zw))
theorem aAP{a}{k}{b}{r}(h:W3 n a k b=some r):VQ G 39 [] [V.agg (aL a),vI k,V.agg (aL b)] (V.agg [ms 0 1 1 rI r.coefs,vI r.const]) [ar 3 1 1 rI r.coefs]:=by
 refine vq aQ Tryz.func39 rfl fun w X β0 hC hg=>rq hC [.z (.b (true)),.z (.b (true)),.z (.nat 20)] [3,5,6] [(3,V.tp (aU a)),(5,V.tp (aU b)),(6,V.ref 20 0)] [(20,sc [aT,vI 0])] [(20,true)] ?_;obtain⟨x1,hx1,h⟩:=bd h;refine rq hC [oC [] [21] (iT G n a hx1),.z (.nat 22)] [7,10,11] [(7,V.ref 22 0)] [(21,some (ar 3 1 1 rI x1.coefs)),(22,sc [ms 21 1 1 rI x1.coefs,vI x1.const])] [(21,true),(22,true)] (qs (aV hC [oN rI b.coefs] (fr 12 4) [(13,vM rI b.coefs),(14,vI (b.coefs.length:Int)),(15,vI 0)] (qb (kU h (fun x_ g_=>dE [(1,vI k),(5,V.tp (aU b)),(6,V.ref 20 0),(7,V.ref 22 0),(13,vM rI b.coefs),(14,vI (b.coefs.length:Int)),(15,vI x_.2)] [(20,E.cells [aT,vI 0]),(21,ar 3 g_ 1 rI x_.1),(22,E.cells [ms 21 g_ 1 rI x_.1,vI x1.const])] [20,21,22]) 1 (lS) ?_))));rintro again5 ⟨x2,x3⟩ g4 h;refine aG hC [16] [(16,vK x3 b.coefs)] (n9 h (fun c1 h=>?_) fun c1 h=>?_)
 ·refine qk (cP ?_);obtain⟨x6,hx6,h⟩:=bd h;refine aV hC [oR rI hx6] [8,9,17,18,19] [(8,vI x3),(9,vI x6)] ?_;obtain⟨x7,hx7,x8,hx8,h⟩:=dO h;exact rkt hC [oQ (kX rI hx7),oX rI hx7,oQ (kX rI hx7),oX rI hx7,.z (.rows (x8.map rI)),.z (.lenc 22 0 (x8.map rI).length),oQ (str rI hx8),oQ (jD rI hx8)] (fr 20 10) [(21,some (ar 3 g4 1 rI x8)),(22,sc [ms 21 g4 1 rI x8,vI x1.const])] [] (aZ hC [15,30] [(15,vI (wr (x3+1)))] ⟨(x8,wr (x3+1)),g4,h,lS⟩)
 cases h;exact cK (iJ hC (fr 31 8) [(22,sc [ms 21 g4 1 rI x2,vI (wr (x1.const+(wr (k*b.const))))])] [] (iJ hC [39] [(20,sc [ms 21 g4 1 rI x2,vI (wr (x1.const+(wr (k*b.const))))])] [] (qw (lk hC [.rn 21 0 [] [20,22]] [] [] [(20,sc [ms 0 1 1 rI x2,vI (wr (x1.const+(wr (k*b.const))))]),(22,sc [ms 0 1 1 rI x2,vI (wr (x1.const+(wr (k*b.const))))]),(21,none),(0,some (ar 3 1 1 rI x2))] [(0,true)]) zw)))
theorem N4(G:GS)(n:Nat)(a:Affine)(c0__a1:Int)(c1__a2:Int){r:Affine}(h:jR n a c0__a1 c1__a2=some r):PQ G 38 [V.agg (aL a),V.tp [T.int .i64 c0__a1],V.tp [T.int .i64 c1__a2]] (V.agg (aL r)):=by refine pq aQ Tryz.func38 rfl fun w X hC=>rq hC [.z (.b (true)),.z (.nat 20)] [3,4] [(3,V.tp (aU a)),(4,V.ref 20 0)] [(20,sc [aT,vI 0])] [(20,true)] (qs ?_);obtain⟨x1,hx1,x2,hx2,h⟩:=dO h;obtain rfl:=so h;exact oK hC bI [oC [] [21] (qU G hx1),.z (.at 2),.z (.fz 21 [8] []),oC [] [22] (aAP G hx2)] (fr 5 5) [(21,none),(22,some (ar 3 1 1 rI x2.coefs)),(20,sc [ms 22 1 1 rI x2.coefs,vI x2.const])] [(21,true),(22,true)] (qw (lk hC [.fz 22 [] [20]] [] [] [(20,some (E.cells (aL x2))),(22,none)] []) zr)
theorem pL(G:GS)(n:Nat)(a:Access)(changeF:FuncId)(changeC0:List T)(changeC1:List T)(change:Affine→Option Affine)(hchange: ∀(q0:Affine) r,change q0=some r→PQ G changeF [V.agg (aL q0),V.tp changeC0,V.tp changeC1] (V.agg (aL r))){r:Access}(h:gN n a change=some r):PQ G 123 [V.agg (cG a),V.fn changeF [V.tp changeC0,V.tp changeC1]] (V.agg (cG r)):=by
 refine pq aQ Tryz.func123 rfl fun w X hC=>rq hC [.z (.b (true)),.z (.nat 20)] [2,4] [(2,V.tp (cM a)),(4,V.ref 20 0)] [(20,sc [vS [],aT])] [(20,true)] (rq hC [.z (.nat 21)] [5,8,9,10] [(5,V.ref 21 0)] [(21,sc [vS a.array,aT])] [(21,true)] (qs (aV hC [oN aA a.subs] (fr 11 4) [(12,vM aA a.subs),(13,vI (a.subs.length:Int)),(14,vI 0)] (qb (qw (lk hC [.growc 21 1 22 46] [] [] [(22,some (ar 46 1 2 aA [])),(21,sc [vS a.array,ms 22 1 2 aA []])] [(22,true)]) ?_)))));refine kU h (fun x_ g_=>dE [(1,V.fn changeF [V.tp changeC0,V.tp changeC1]),(4,V.ref 20 0),(5,V.ref 21 0),(12,vM aA a.subs),(13,vI (a.subs.length:Int)),(14,vI x_.2)] [(20,E.cells [vS [],aT]),(21,E.cells [vS a.array,ms 22 g_ 2 aA x_.1]),(22,ar 46 g_ 2 aA x_.1)] [20,21,22]) 1 (lS) ?_;rintro again4 ⟨x1,x2⟩ g3 h;refine aG hC [15] [(15,vK x2 a.subs)] (n9 h (fun c1 h=>?_) fun c1 h=>?_)
 ·refine qk (cP ?_);obtain⟨x5,hx5,h⟩:=bd h;refine rq hC [oR aA hx5,.z (.nat 23)] [7,16,17] [(7,V.ref 23 0)] [(23,some (E.cells (aL x5)))] [(23,true)] ?_;obtain⟨x6,hx6,x7,hx7,h⟩:=dO h;exact oK hC bI [oV (hchange x5 _ hx6),.z (.int 0),oA (aY aA hx7),oM 2 bE x1,oM 2 bE [x6]] (fr 18 8) [(22,some (ar 46 (g3+1) 2 aA x7)),(21,sc [vS a.array,ms 22 (g3+1) 2 aA x7])] [] (aZ hC [14,26] [(14,vI (wr (x2+1)))] ⟨(x7,wr (x2+1)),(g3+1),h,lS⟩)
 cases h;exact cK (gW hC [.z (.at 2),.z (.fz 22 [] [21])] [27] [(21,sc [vS a.array,vM aA x1]),(22,none),(20,sc [vS a.array,vM aA x1])] [] zr)
theorem M8(G:GS): ∀(n:Nat) (e:Expr) (changeF:FuncId) (changeC0:List T) (changeC1:List T) (change:Affine→Option Affine) (hchange: ∀(q0:Affine) r,change q0=some r→PQ G changeF [V.agg (aL q0),V.tp changeC0,V.tp changeC1] (V.agg (aL r))) {r:Expr} (h:i_exprMap n e change=some r),PQ G 124 [V.agg (dN e),V.fn changeF [V.tp changeC0,V.tp changeC1]] (V.agg (dN r)):=by
 intro n;induction n with
 |zero=>intro e changeF changeC0 changeC1 change hchange r h;rw [i_exprMap.eq_def] at h;cases h
 |succ n ih=>
  intro e changeF changeC0 changeC1 change hchange r h;rw [i_exprMap.eq_def] at h;dsimp only at h;refine pq aQ Tryz.func124 rfl fun w X hC=>rq hC [.z (.b (true)),.z (.nat 20)] [2,4] [(2,V.tp (dM e)),(4,V.ref 20 0)] [(20,sc [vI 0,vI 0,aT,vI 0,vS [],aT,aT])] [(20,true)] (rq hC [.z (.nat 21)] [5,8,9,10,11,12] [(5,V.ref 21 0)] [(21,sc [vI e.kind,vI e.num,aT,vI 0,vS [],aT,aT])] [(21,true)] (vj h (fun x_=>dE [(1,V.fn changeF [V.tp changeC0,V.tp changeC1]),(2,V.tp (dM e)),(4,V.ref 20 0),(5,V.ref 21 0)] [(20,E.cells [vI 0,vI 0,aT,vI 0,vS [],aT,aT]),(21,E.cells [vI e.kind,vI e.num,vM rI x_.1,vI x_.2.1,vS x_.2.2.1,vM aA x_.2.2.2,aT])] [20,21]) (fun j1 h=>?_) ?_))
  ·refine aG hC [13,14] [(14,vI e.kind)] (qb (aG hC [15,16] [(15,vD (e.kind=2))] (bA h (fun c1 h=>?_) fun c1 h=>?_)))
   ·obtain⟨x2,hx2,h⟩:=bd h;exact rkt hC [oV (hchange e.index _ hx2)] (fr 17 5) [(21,sc [vI e.kind,vI e.num,vM rI x2.coefs,vI x2.const,vS [],aT,aT])] [] (lE h)
   refine aG hC [22,23] [(22,vD (e.kind=3))] (bA h (fun c2 h=>?_) fun c2 h=>qk (lE h));obtain⟨x3,hx3,h⟩:=bd h;exact rkt hC [oV (pL G n e.read changeF changeC0 changeC1 change hchange hx3)] (fr 24 5) [(21,sc [vI e.kind,vI e.num,aT,vI 0,vS x3.array,vM aA x3.subs,aT])] [] (lE h)
  rintro⟨x4,x5,x6,x7⟩ h;refine qs (aV hC [oN aC e.kids] (fr 29 4) [(30,vM aC e.kids),(31,vI (e.kids.length:Int)),(32,vI 0)] (qb (qw (lk hC [.growc 21 6 22 108] [] [] [(22,some (ar 108 1 7 aC [])),(21,sc [vI e.kind,vI e.num,vM rI x4,vI x5,vS x6,vM aA x7,ms 22 1 7 aC []])] [(22,true)]) (kU h (fun x_ g_=>dE [(1,V.fn changeF [V.tp changeC0,V.tp changeC1]),(4,V.ref 20 0),(5,V.ref 21 0),(30,vM aC e.kids),(31,vI (e.kids.length:Int)),(32,vI x_.2)] [(20,E.cells [vI 0,vI 0,aT,vI 0,vS [],aT,aT]),(21,E.cells [vI e.kind,vI e.num,vM rI x4,vI x5,vS x6,vM aA x7,ms 22 g_ 7 aC x_.1]),(22,ar 108 g_ 7 aC x_.1)] [20,21,22]) 1 (lS) ?_))));rintro again11 ⟨x8,x9⟩ g10 h;refine aG hC [33] [(33,vK x9 e.kids)] (n9 h (fun c3 h=>?_) fun c3 h=>?_)
  ·refine qk (cP ?_);obtain⟨x12,hx12,h⟩:=bd h;refine rq hC [.z (.row (bG x12)),.z (.nat 23),oQ (cF aC hx12 (aO x12))] [7,34,35] [(7,V.ref 23 0)] [(23,some (E.cells (dN x12)))] [(23,true)] ?_;obtain⟨x13,hx13,x14,hx14,h⟩:=dO h;exact oK hC bI [oV (ih x12 changeF changeC0 changeC1 change hchange hx13),.z (.int 2),.z (.rows (List.map aC [x13])),oQ (w7 x13),oA (aY aC hx14),oM 7 eB x8,oM 7 eB [x13]] (fr 36 8) [(22,some (ar 108 (g10+1) 7 aC x14)),(21,sc [vI e.kind,vI e.num,vM rI x4,vI x5,vS x6,vM aA x7,ms 22 (g10+1) 7 aC x14])] [] (aZ hC [32,44] [(32,vI (wr (x9+1)))] ⟨(x14,wr (x9+1)),(g10+1),h,lS⟩)
  cases h;exact cK (gW hC [.z (.at 2),.z (.fz 22 [] [21])] [45] [(21,sc [vI e.kind,vI e.num,vM rI x4,vI x5,vS x6,vM aA x7,vM aC x8]),(22,none),(20,sc [vI e.kind,vI e.num,vM rI x4,vI x5,vS x6,vM aA x7,vM aC x8])] [] zr)
theorem M6(G:GS)(n:Nat)(s:Stmt)(changeF:FuncId)(changeC0:List T)(changeC1:List T)(change:Affine→Option Affine)(hchange: ∀(q0:Affine) r,change q0=some r→PQ G changeF [V.agg (aL q0),V.tp changeC0,V.tp changeC1] (V.agg (aL r))){r:Stmt}(h:gZ n s change=some r):PQ G 83 [V.agg (eM s),V.fn changeF [V.tp changeC0,V.tp changeC1]] (V.agg (eM r)):=by refine pq aQ Tryz.func83 rfl fun w X hC=>rq hC [.z (.b (true)),.z (.nat 20)] [2,4] [(2,V.tp (jV s)),(4,V.ref 20 0)] [(20,sc [vS [],aT,vI 0,vI 0,aT,vI 0,vS [],aT,aT])] [(20,true)] (qs ?_);obtain⟨x1,hx1,x2,hx2,h⟩:=dO h;cases h;exact oK hC bI [oV (pL G n s.write changeF changeC0 changeC1 change hchange hx1),oV (M8 G n s.value changeF changeC0 changeC1 change hchange hx2)] (fr 5 9) [(20,sc [vS x1.array,vM aA x1.subs,vI x2.kind,vI x2.num,vM rI x2.index.coefs,vI x2.index.const,vS x2.read.array,vM aA x2.read.subs,vM aC x2.kids])] [] zr
theorem sU(G:GS)(n:Nat)(rows:List Part)(i:Int)(p:Part)(hp:ix rows i=some p)(g:Nat)(from_:Int)(fF:FuncId)(fC0:List T)(fC1:List T)(f:Affine→Option Affine)(hf: ∀(q0:Affine) r,f q0=some r→PQ G fF [V.agg (aL q0),V.tp fC0,V.tp fC1] (V.agg (aL r))){p':Part}{rows':List Part}(h:kY n p from_ f=some p')(hr:dC rows i p'=some rows'):
  VQ G 41 [E.tree fJ 0 g (rows.map aF) []] [V.eref 0 g 2 (0+Int.toNat i) 0,vI from_,V.fn fF [V.tp fC0,V.tp fC1]] (V.tup []) [E.tree fJ 0 g (List.map aF rows') []]:=by
 refine vq aQ Tryz.func41 rfl fun w X β0 hC hg=>qs (aG hC [6,9] [(6,vI from_)] (qw (sD hC [.foc 0 21 (0+Int.toNat i) 0 (aF p),.foc 0 22 (0+Int.toNat i) 1 (aF p),.shd 22] [] [] [(0,some (E.tree fJ 0 g (rows.map aF) [((0+Int.toNat i),1,ms 22 1 9 aE p.body),((0+Int.toNat i),0,ms 21 1 2 aD p.nest)])),(21,some (E.tree fJ 1 1 (p.nest.map aD) [])),(22,some (ar 110 1 9 aE p.body))] [(21,true),(22,true)] (a2 (eV aF hp) (eV aF hp)) (by kernel_rfl)) (qb (iH h (fun x_=>dE [(0,V.eref 0 g 2 (0+Int.toNat i) 0),(2,V.fn fF [V.tp fC0,V.tp fC1]),(6,vI x_.2)] [(0,E.tree fJ 0 g (rows.map aF) [((0+Int.toNat i),1,ms 22 1 9 aE p.body),((0+Int.toNat i),0,ms 21 1 2 aD p.nest)]),(21,E.tree fJ 1 1 (x_.1.map aD) []),(22,ar 110 1 9 aE p.body)] [0,21,22]) lS ?_))));rintro again1 ⟨x,k⟩ h;obtain⟨s1,hs1,h⟩:=bd h;refine qs (aV hC [oX aF hp,.z (.nat x.length),oQ (aMN aD hs1)] (fr 10 7) [(16,vD (k<(x.length:Int)))] (bA h (fun c1 h=>?_) fun c1 h=>?_))
 ·refine qk (cP ?_);obtain⟨x2,hx2,x3,hx3,x4,hx4,h⟩:=q7 h;exact rkt hC [oX aF hp,oQ (aMb aD hs1 hx2),oC [21] [] (lO G n x k x2 hx2 1 fF fC0 fC1 f hf hx3 hx4)] (fr 19 8) [(21,some (E.tree fJ 1 1 (x4.map aD) []))] [(21,true)] (aZ hC [6,17,18] [(6,vI (wr (k+1)))] (lE h))
 refine cK (aV hC [oX aF hp,oN aE p.body] (fr 27 6) [(30,ms 22 1 9 aE p.body),(31,vI (p.body.length:Int)),(32,vI 0)] (qb (iH h (fun x_=>dE [(0,V.eref 0 g 2 (0+Int.toNat i) 0),(2,V.fn fF [V.tp fC0,V.tp fC1]),(30,ms 22 1 9 aE x_.1),(31,vI (p.body.length:Int)),(32,vI x_.2)] [(0,E.tree fJ 0 g (rows.map aF) [((0+Int.toNat i),1,ms 22 1 9 aE p.body),((0+Int.toNat i),0,ms 21 1 2 aD p.nest)]),(21,E.tree fJ 1 1 (x.map aD) []),(22,ar 110 1 9 aE x_.1)] [0,21,22]) lS ?_)));rintro again2 ⟨y,j⟩ h;obtain⟨s2,hs2,h⟩:=bd h;refine aG hC [33] [(33,vD (j<(p.body.length:Int)))] (n9 h (fun c2 h=>?_) fun c2 h=>?_)
 ·refine qk (cP ?_);obtain⟨x6,hx6,h⟩:=bd h;refine rq hC [oQ (kX aE hx6),oX aE hx6,.z (.nat 24)] [7,8,34,35,36] [(7,vI j),(8,V.ref 24 0)] [(24,some (E.cells (eM x6)))] [(24,true)] ?_;obtain⟨x7,hx7,x8,hx8,h⟩:=dO h;exact oK hC bI [oX aF hp,oV (M6 G n x6 fF fC0 fC1 f hf hx7),oQ (aMb aE hs2 hx6),oX aE hx6,.z (.rows (x8.map aE)),oQ (str aE hx8)] (fr 37 9) [(22,some (ar 110 1 9 aE x8))] [] (qw (sD hC [.len 30 (x8.map aE).length] [30] [(30,ms 22 1 9 aE x8)] [] [] (a1 (jD aE hx8)) (by kernel_rfl)) (aZ hC [32,46] [(32,vI (wr (j+1)))] (lE h)))
 cases h;exact qw (sD hC [.tre 22 fJ 2,.unf 0 22 (aF p) (List.map aF (rows.set i.toNat (⟨p.nest,y⟩:Part))),.unf 0 21 (aF (⟨p.nest,y⟩:Part)) (List.map aF rows')] [] [] [(22,none),(21,none),(0,some (E.tree fJ 0 g (List.map aF rows') []))] [] (a8 (rN aE hs2) (Eq.refl fJ) (eV aF hp) (aGI aF (aBk hr (⟨p.nest,y⟩:Part)) rfl) (rN aD hs1) (Eq.refl fJ) (eV aF (aG6 hr (⟨p.nest,y⟩:Part))) (aGI aF (aBj hr (⟨p.nest,y⟩:Part)) rfl)) (by kernel_rfl)) (cK eW)
theorem aFD{a}{v}{b}{r}(h:C5 n a v b=some r):VQ G 43 [] [V.agg (aL a),vI v,V.agg (aL b)] (V.agg [ms 0 1 1 rI r.coefs,vI r.const]) [ar 3 1 1 rI r.coefs]:=by refine vq aQ Tryz.func43 rfl fun w X β0 hC hg=>rq hC [.z (.b (true)),.z (.b (true)),.z (.nat 20)] [3,5,6] [(3,V.tp (aU a)),(5,V.tp (aU b)),(6,V.ref 20 0)] [(20,sc [aT,vI 0])] [(20,true)] ?_;obtain⟨x1,hx1,h⟩:=bd h;refine rq hC [oC [] [21] (iT G n a hx1),.z (.nat 22)] [7,9,10] [(7,V.ref 22 0)] [(21,some (ar 3 1 1 rI x1.coefs)),(22,sc [ms 21 1 1 rI x1.coefs,vI x1.const])] [(21,true),(22,true)] ?_;obtain⟨x2,hx2,h⟩:=bd h;refine aV hC [oQ (kX rI hx2),oX rI hx2] [8,11,12,13,14,15] [(8,vI x2)] ?_;obtain⟨x3,hx3,h⟩:=bd h;refine gW hC [oQ (kX rI hx2),oX rI hx2,.z (.rows (x3.map rI)),.z (.lenc 22 0 (x3.map rI).length),oQ (str rI hx3),oQ (jD rI hx3)] (fr 16 4) [(21,some (ar 3 1 1 rI x3)),(22,sc [ms 21 1 1 rI x3,vI x1.const])] [] ?_;obtain⟨x4,hx4,h⟩:=bd h;obtain rfl:=so h;exact gW hC [.z (.at 5),.z (.fz 21 [] [22]),oC [] [23] (aAP G hx4)] (fr 20 4) [(22,sc [vM rI x3,vI x1.const]),(21,none),(23,some (ar 3 1 1 rI x4.coefs)),(20,sc [ms 23 1 1 rI x4.coefs,vI x4.const])] [(23,true)] (qw (lk hC [.rn 23 0 [] [20]] [] [] [(20,sc [ms 0 1 1 rI x4.coefs,vI x4.const]),(23,none),(0,some (ar 3 1 1 rI x4.coefs))] [(0,true)]) zw)
theorem N3(G:GS)(n:Nat)(a:Affine)(c0__a1:Int)(c1__a2:Affine){r:Affine}(h:iA n a c0__a1 c1__a2=some r):PQ G 42 [V.agg (aL a),V.tp [T.int .i64 c0__a1],V.tp (aU c1__a2)] (V.agg (aL r)):=by refine pq aQ Tryz.func42 rfl fun w X hC=>rq hC [.z (.b (true)),.z (.nat 20)] [3,4] [(3,V.tp (aU a)),(4,V.ref 20 0)] [(20,sc [aT,vI 0])] [(20,true)] ?_;obtain⟨x1,hx1,h⟩:=bd h;obtain rfl:=so h;exact gW hC [oC [] [21] (aFD G hx1)] (fr 5 5) [(21,some (ar 3 1 1 rI x1.coefs)),(20,sc [ms 21 1 1 rI x1.coefs,vI x1.const])] [(21,true)] (qw (lk hC [.fz 21 [] [20]] [] [] [(20,some (E.cells (aL x1))),(21,none)] []) zr)
theorem L3{a}{b}{r}(h:rE n a b=some r):PQ G 125 [vM rI a,vM rI b] (vB r):=by
 refine pq aQ Tryz.func125 rfl fun w X hC=>bD hC [4] (qs (aV hC [oN rI a,oN rI b] (fr 6 5) [(10,vB (!decide ((a.length:Int)=(b.length:Int))))] (bA h (fun c1 h=>?_) fun c1 h=>?_)))
 ·cases h;exact aG hC [4] [(4,vB false)] zr
 refine qk (qs (aG hC [5] [(5,vI 0)] (qb (iH h (fun x_=>d8 [(0,vM rI a),(1,vM rI b),(5,vI x_)]) lS ?_))));rintro again2 x1 h;refine qs (aV hC [oN rI a] (fr 11 4) [(14,vK x1 a)] (bA h (fun c2 h=>?_) fun c2 h=>?_))
 ·refine qk (cP (qs ?_));obtain⟨x3,hx3,x4,hx4,h⟩:=dO h;refine oL hC bI [oR rI hx3,oR rI hx4] (fr 17 9) [(25,vB (!decide (x3=x4)))] (bA h (fun c3 h=>?_) fun c3 h=>qk (aZ hC [5,15,16] [(5,vI (wr (x1+1)))] (lE h)));cases h;exact aG hC [4] [(4,vB false)] zr
 cases h;exact cK (aG hC [4] [(4,vB true)] zr)
theorem aB5{a}{b}{r}(h:s4 n a b=some r):PQ G 84 [V.agg [vS a.name,vM rI a.dims],V.agg [vS b.name,vM rI b.dims]] (vB r):=by
 refine pq aQ Tryz.func84 rfl fun w X hC=>aV hC [.z (.b (true)),.z (.b (true))] [2,3,4] [(2,V.tp [T.str a.name,T.sl (List.map rI a.dims)]),(3,V.tp [T.str b.name,T.sl (List.map rI b.dims)])] (qs (aG hC (fr 5 5) [(9,vB (!decide (a.name=b.name)))] (bA h (fun c1 h=>?_) fun c1 h=>?_)))
 ·cases h;exact aG hC [4] [(4,vB false)] zr
 refine qk (qs ?_);obtain⟨x1,hx1,h⟩:=bd h;refine aV hC [oV (L3 G hx1)] (fr 10 6) [(15,vB (!x1))] (bA h (fun c2 h=>?_) fun c2 h=>?_)
 ·cases h;exact aG hC [4] [(4,vB false)] zr
 cases h;exact qk (aG hC [4] [(4,vB true)] zr)
theorem aAM{a}{b}{r}(h:uE n a b=some r):PQ G 45 [vM aJ a,vM aJ b] (vB r):=by
 refine pq aQ Tryz.func45 rfl fun w X hC=>bD hC [4] (qs (aV hC [oN aJ a,oN aJ b] (fr 6 5) [(10,vB (!decide ((a.length:Int)=(b.length:Int))))] (bA h (fun c1 h=>?_) fun c1 h=>?_)))
 ·cases h;exact aG hC [4] [(4,vB false)] zr
 refine qk (qs (aG hC [5] [(5,vI 0)] (qb (iH h (fun x_=>d8 [(0,vM aJ a),(1,vM aJ b),(5,vI x_)]) lS ?_))));rintro again2 x1 h;refine qs (aV hC [oN aJ a] (fr 11 4) [(14,vK x1 a)] (bA h (fun c2 h=>?_) fun c2 h=>?_))
 ·refine qk (cP (qs ?_));obtain⟨x3,hx3,x4,hx4,x5,hx5,h⟩:=q7 h;refine oL hC bI [oR aJ hx3,oR aJ hx4,oV (aB5 G hx5)] (fr 17 10) [(26,vB (!x5))] (bA h (fun c3 h=>?_) fun c3 h=>qk (aZ hC [5,15,16] [(5,vI (wr (x1+1)))] (lE h)));cases h;exact aG hC [4] [(4,vB false)] zr
 cases h;exact cK (aG hC [4] [(4,vB true)] zr)
theorem xA{a}{b}{r}(h:mV n a b=some r):PQ G 246 [V.agg (aL a),V.agg (aL b)] (vB r):=by
 refine pq aQ Tryz.func246 rfl fun w X hC=>aV hC [.z (.b (true)),.z (.b (true))] [2,3,4] [(2,V.tp (aU a)),(3,V.tp (aU b))] (qs ?_);obtain⟨x1,hx1,h⟩:=bd h;refine aV hC [oV (L3 G hx1)] (fr 5 6) [(10,vB (!x1))] (bA h (fun c1 h=>?_) fun c1 h=>?_)
 ·cases h;exact aG hC [4] [(4,vB false)] zr
 refine qk (qs (aG hC (fr 11 5) [(15,vB (!decide (a.const=b.const)))] (bA h (fun c2 h=>?_) fun c2 h=>?_)))
 ·cases h;exact aG hC [4] [(4,vB false)] zr
 cases h;exact qk (aG hC [4] [(4,vB true)] zr)
theorem oE{a}{b}{r}(h:lG n a b=some r):PQ G 212 [vM aA a,vM aA b] (vB r):=by
 refine pq aQ Tryz.func212 rfl fun w X hC=>bD hC [4] (qs (aV hC [oN aA a,oN aA b] (fr 6 5) [(10,vB (!decide ((a.length:Int)=(b.length:Int))))] (bA h (fun c1 h=>?_) fun c1 h=>?_)))
 ·cases h;exact aG hC [4] [(4,vB false)] zr
 refine qk (qs (aG hC [5] [(5,vI 0)] (qb (iH h (fun x_=>d8 [(0,vM aA a),(1,vM aA b),(5,vI x_)]) lS ?_))));rintro again2 x1 h;refine qs (aV hC [oN aA a] (fr 11 4) [(14,vK x1 a)] (bA h (fun c2 h=>?_) fun c2 h=>?_))
 ·refine qk (cP (qs ?_));obtain⟨x3,hx3,x4,hx4,x5,hx5,h⟩:=q7 h;refine oL hC bI [oR aA hx3,oR aA hx4,oV (xA G hx5)] (fr 17 10) [(26,vB (!x5))] (bA h (fun c3 h=>?_) fun c3 h=>qk (aZ hC [5,15,16] [(5,vI (wr (x1+1)))] (lE h)));cases h;exact aG hC [4] [(4,vB false)] zr
 cases h;exact cK (aG hC [4] [(4,vB true)] zr)
theorem aDI{a}{b}{r}(h:vX n a b=some r):PQ G 170 [V.agg (lY a),V.agg (lY b)] (vB r):=by
 refine pq aQ Tryz.func170 rfl fun w X hC=>aV hC [.z (.b (true)),.z (.b (true))] [2,3,4] [(2,V.tp (oP a)),(3,V.tp (oP b))] (qs ?_);obtain⟨x1,hx1,h⟩:=bd h;refine aV hC [oV (oE G hx1)] (fr 5 6) [(10,vB (!x1))] (bA h (fun c1 h=>?_) fun c1 h=>?_)
 ·cases h;exact aG hC [4] [(4,vB false)] zr
 refine qk (qs ?_);obtain⟨x2,hx2,h⟩:=bd h;refine aV hC [oV (oE G hx2)] (fr 11 6) [(16,vB (!x2))] (bA h (fun c2 h=>?_) fun c2 h=>?_)
 ·cases h;exact aG hC [4] [(4,vB false)] zr
 cases h;exact qk (aG hC [4] [(4,vB true)] zr)
theorem aB3{a}{b}{r}(h:yC n a b=some r):PQ G 126 [vM aD a,vM aD b] (vB r):=by
 refine pq aQ Tryz.func126 rfl fun w X hC=>bD hC [4] (qs (aV hC [oN aD a,oN aD b] (fr 6 5) [(10,vB (!decide ((a.length:Int)=(b.length:Int))))] (bA h (fun c1 h=>?_) fun c1 h=>?_)))
 ·cases h;exact aG hC [4] [(4,vB false)] zr
 refine qk (qs (aG hC [5] [(5,vI 0)] (qb (iH h (fun x_=>d8 [(0,vM aD a),(1,vM aD b),(5,vI x_)]) lS ?_))));rintro again2 x1 h;refine qs (aV hC [oN aD a] (fr 11 4) [(14,vK x1 a)] (bA h (fun c2 h=>?_) fun c2 h=>?_))
 ·refine qk (cP (qs ?_));obtain⟨x3,hx3,x4,hx4,x5,hx5,h⟩:=q7 h;refine oL hC bI [oR aD hx3,oR aD hx4,oV (aDI G hx5)] (fr 17 10) [(26,vB (!x5))] (bA h (fun c3 h=>?_) fun c3 h=>qk (aZ hC [5,15,16] [(5,vI (wr (x1+1)))] (lE h)));cases h;exact aG hC [4] [(4,vB false)] zr
 cases h;exact cK (aG hC [4] [(4,vB true)] zr)
theorem xB{a}{b}{r}(h:mW n a b=some r):PQ G 213 [V.agg (cG a),V.agg (cG b)] (vB r):=by
 refine pq aQ Tryz.func213 rfl fun w X hC=>aV hC [.z (.b (true)),.z (.b (true))] [2,3,4] [(2,V.tp (cM a)),(3,V.tp (cM b))] (qs (aG hC (fr 5 5) [(9,vB (!decide (a.array=b.array)))] (bA h (fun c1 h=>?_) fun c1 h=>?_)))
 ·cases h;exact aG hC [4] [(4,vB false)] zr
 refine qk (qs ?_);obtain⟨x1,hx1,h⟩:=bd h;refine aV hC [oV (oE G hx1)] (fr 10 6) [(15,vB (!x1))] (bA h (fun c2 h=>?_) fun c2 h=>?_)
 ·cases h;exact aG hC [4] [(4,vB false)] zr
 cases h;exact qk (aG hC [4] [(4,vB true)] zr)
theorem aB4(G:GS)(n:Nat)(self:Expr→Expr→Option Bool)(hself: ∀(q0:Expr) (q1:Expr) {r:Bool},self q0 q1=some r→PQ G 214 [V.agg (dN q0),V.agg (dN q1)] (vB r))(a:List Expr)(b:List Expr){r:Bool}(h:yD n self a b=some r):PQ G 247 [vM aC a,vM aC b] (vB r):=by
 refine pq aQ Tryz.func247 rfl fun w X hC=>bD hC [4] (qs (aV hC [oN aC a,oN aC b] (fr 6 5) [(10,vB (!decide ((a.length:Int)=(b.length:Int))))] (bA h (fun c1 h=>?_) fun c1 h=>?_)))
 ·cases h;exact aG hC [4] [(4,vB false)] zr
 refine qk (qs (aG hC [5] [(5,vI 0)] (qb (iH h (fun x_=>d8 [(0,vM aC a),(1,vM aC b),(5,vI x_)]) lS ?_))));rintro again2 x1 h;refine qs (aV hC [oN aC a] (fr 11 4) [(14,vK x1 a)] (bA h (fun c2 h=>?_) fun c2 h=>?_))
 ·refine qk (cP (qs ?_));obtain⟨x3,hx3,x4,hx4,x5,hx5,h⟩:=q7 h;refine oL hC bI [.z (.row (bG x3)),.z (.row (bG x4)),oQ (cF aC hx3 (aO x3)),oQ (cF aC hx4 (aO x4)),oV (hself x3 x4 hx5)] (fr 17 10) [(26,vB (!x5))] (bA h (fun c3 h=>?_) fun c3 h=>qk (aZ hC [5,15,16] [(5,vI (wr (x1+1)))] (lE h)));cases h;exact aG hC [4] [(4,vB false)] zr
 cases h;exact cK (aG hC [4] [(4,vB true)] zr)
theorem aDJ(G:GS): ∀(n:Nat) (a:Expr) (b:Expr) {r:Bool} (h:w_eqExpr n a b=some r),PQ G 214 [V.agg (dN a),V.agg (dN b)] (vB r):=by
 intro n;induction n with
 |zero=>intro a b r h;rw [w_eqExpr.eq_def] at h;cases h
 |succ n ih=>
  intro a b r h;rw [w_eqExpr.eq_def] at h;dsimp only at h;refine pq aQ Tryz.func214 rfl fun w X hC=>aV hC [.z (.b (true)),.z (.b (true))] [2,3,4] [(2,V.tp (dM a)),(3,V.tp (dM b))] (qs (aG hC (fr 5 5) [(9,vB (!decide (a.kind=b.kind)))] (bA h (fun c1 h=>?_) fun c1 h=>?_)))
  ·cases h;exact aG hC [4] [(4,vB false)] zr
  refine qk (qs (aG hC (fr 10 5) [(14,vB (!decide (a.num=b.num)))] (bA h (fun c2 h=>?_) fun c2 h=>?_)))
  ·cases h;exact aG hC [4] [(4,vB false)] zr
  refine qk (qs ?_);obtain⟨x1,hx1,h⟩:=bd h;refine aV hC [oV (xA G hx1)] (fr 15 6) [(20,vB (!x1))] (bA h (fun c3 h=>?_) fun c3 h=>?_)
  ·cases h;exact aG hC [4] [(4,vB false)] zr
  refine qk (qs ?_);obtain⟨x2,hx2,h⟩:=bd h;refine aV hC [oV (xB G hx2)] (fr 21 6) [(26,vB (!x2))] (bA h (fun c4 h=>?_) fun c4 h=>?_)
  ·cases h;exact aG hC [4] [(4,vB false)] zr
  refine qk (qs ?_);obtain⟨x3,hx3,h⟩:=bd h;refine aV hC [oV (aB4 G n (w_eqExpr n) (fun q0 q1 r h=>ih q0 q1 h) a.kids b.kids hx3)] (fr 27 6) [(32,vB (!x3))] (bA h (fun c5 h=>?_) fun c5 h=>?_)
  ·cases h;exact aG hC [4] [(4,vB false)] zr
  cases h;exact qk (aG hC [4] [(4,vB true)] zr)
theorem aDG{a}{b}{r}(h:vV n a b=some r):PQ G 171 [V.agg (eM a),V.agg (eM b)] (vB r):=by
 refine pq aQ Tryz.func171 rfl fun w X hC=>aV hC [.z (.b (true)),.z (.b (true))] [2,3,4] [(2,V.tp (jV a)),(3,V.tp (jV b))] (qs ?_);obtain⟨x1,hx1,h⟩:=bd h;refine aV hC [oV (xB G hx1)] (fr 5 6) [(10,vB (!x1))] (bA h (fun c1 h=>?_) fun c1 h=>?_)
 ·cases h;exact aG hC [4] [(4,vB false)] zr
 refine qk (qs ?_);obtain⟨x2,hx2,h⟩:=bd h;refine aV hC [oV (aDJ G n a.value b.value hx2)] (fr 11 6) [(16,vB (!x2))] (bA h (fun c2 h=>?_) fun c2 h=>?_)
 ·cases h;exact aG hC [4] [(4,vB false)] zr
 cases h;exact qk (aG hC [4] [(4,vB true)] zr)
theorem aB1{a}{b}{r}(h:yA n a b=some r):PQ G 127 [vM aE a,vM aE b] (vB r):=by
 refine pq aQ Tryz.func127 rfl fun w X hC=>bD hC [4] (qs (aV hC [oN aE a,oN aE b] (fr 6 5) [(10,vB (!decide ((a.length:Int)=(b.length:Int))))] (bA h (fun c1 h=>?_) fun c1 h=>?_)))
 ·cases h;exact aG hC [4] [(4,vB false)] zr
 refine qk (qs (aG hC [5] [(5,vI 0)] (qb (iH h (fun x_=>d8 [(0,vM aE a),(1,vM aE b),(5,vI x_)]) lS ?_))));rintro again2 x1 h;refine qs (aV hC [oN aE a] (fr 11 4) [(14,vK x1 a)] (bA h (fun c2 h=>?_) fun c2 h=>?_))
 ·refine qk (cP (qs ?_));obtain⟨x3,hx3,x4,hx4,x5,hx5,h⟩:=q7 h;refine oL hC bI [oR aE hx3,oR aE hx4,oV (aDG G hx5)] (fr 17 10) [(26,vB (!x5))] (bA h (fun c3 h=>?_) fun c3 h=>qk (aZ hC [5,15,16] [(5,vI (wr (x1+1)))] (lE h)));cases h;exact aG hC [4] [(4,vB false)] zr
 cases h;exact cK (aG hC [4] [(4,vB true)] zr)
theorem aDH{a}{b}{r}(h:vW n a b=some r):PQ G 85 [V.agg (lX a),V.agg (lX b)] (vB r):=by
 refine pq aQ Tryz.func85 rfl fun w X hC=>aV hC [.z (.b (true)),.z (.b (true))] [2,3,4] [(2,V.tp (gH a)),(3,V.tp (gH b))] (qs ?_);obtain⟨x1,hx1,h⟩:=bd h;refine aV hC [oV (aB3 G hx1)] (fr 5 6) [(10,vB (!x1))] (bA h (fun c1 h=>?_) fun c1 h=>?_)
 ·cases h;exact aG hC [4] [(4,vB false)] zr
 refine qk (qs ?_);obtain⟨x2,hx2,h⟩:=bd h;refine aV hC [oV (aB1 G hx2)] (fr 11 6) [(16,vB (!x2))] (bA h (fun c2 h=>?_) fun c2 h=>?_)
 ·cases h;exact aG hC [4] [(4,vB false)] zr
 cases h;exact qk (aG hC [4] [(4,vB true)] zr)
theorem aB2{a}{b}{r}(h:yB n a b=some r):PQ G 46 [vM aF a,vM aF b] (vB r):=by
 refine pq aQ Tryz.func46 rfl fun w X hC=>bD hC [4] (qs (aV hC [oN aF a,oN aF b] (fr 6 5) [(10,vB (!decide ((a.length:Int)=(b.length:Int))))] (bA h (fun c1 h=>?_) fun c1 h=>?_)))
 ·cases h;exact aG hC [4] [(4,vB false)] zr
 refine qk (qs (aG hC [5] [(5,vI 0)] (qb (iH h (fun x_=>d8 [(0,vM aF a),(1,vM aF b),(5,vI x_)]) lS ?_))));rintro again2 x1 h;refine qs (aV hC [oN aF a] (fr 11 4) [(14,vK x1 a)] (bA h (fun c2 h=>?_) fun c2 h=>?_))
 ·refine qk (cP (qs ?_));obtain⟨x3,hx3,x4,hx4,x5,hx5,h⟩:=q7 h;refine oL hC bI [oR aF hx3,oR aF hx4,oV (aDH G hx5)] (fr 17 10) [(26,vB (!x5))] (bA h (fun c3 h=>?_) fun c3 h=>qk (aZ hC [5,15,16] [(5,vI (wr (x1+1)))] (lE h)));cases h;exact aG hC [4] [(4,vB false)] zr
 cases h;exact cK (aG hC [4] [(4,vB true)] zr)
theorem eQ{a}{b}{r}(h:dA n a b=some r):PQ G 12 [V.agg (cT a),V.agg (cT b)] (vB r):=by
 refine pq aQ Tryz.func12 rfl fun w X hC=>aV hC [.z (.b (true)),.z (.b (true))] [2,3,4] [(2,V.tp (cJ a)),(3,V.tp (cJ b))] (qs ?_);obtain⟨x1,hx1,h⟩:=bd h;refine aV hC [oV (aAM G hx1)] (fr 5 6) [(10,vB (!x1))] (bA h (fun c1 h=>?_) fun c1 h=>?_)
 ·cases h;exact aG hC [4] [(4,vB false)] zr
 refine qk (qs ?_);obtain⟨x2,hx2,h⟩:=bd h;refine aV hC [oV (aB2 G hx2)] (fr 11 6) [(16,vB (!x2))] (bA h (fun c2 h=>?_) fun c2 h=>?_)
 ·cases h;exact aG hC [4] [(4,vB false)] zr
 cases h;exact qk (aG hC [4] [(4,vB true)] zr)
theorem eJ{k}{r}(h:bZ n k=some r):PQ G 86 [vI k] (vS r):=by
 refine pq aQ Tryz.func86 rfl fun w X hC=>bD hC [2] (qs (aG hC [4,5] [(5,vD (k≤0))] (bA h (fun c1 h=>?_) fun c1 h=>?_)))
 ·obtain rfl:=so h;exact aG hC [2] [(2,vS [109,48])] zr
 refine qk (aG hC [3] [(3,vS [])] (cP (iH h (fun x_=>d8 [(0,vI x_.1),(3,vS x_.2)]) lS ?_)));rintro again3 ⟨x1,x2⟩ h;refine qs (aG hC [6,7] [(7,vD ((0:Int)<x1))] (bA h (fun c2 h=>?_) fun c2 h=>?_))
 ·refine qk (qb ?_);obtain⟨x4,hx4,h⟩:=bd h;exact aV hC [.z (.y (UInt8.ofInt (wr (48+(Int.tmod x1 10))))),.z (.int 0),.z (.str [UInt8.ofInt (wr (48+(Int.tmod x1 10)))]),oQ (show(10:Int)≠0 by decide),oQ (Eq.refl (UInt8.ofInt (wr (48+(Int.tmod x1 10))))),oQ (Eq.refl (List.map mH [UInt8.ofInt (wr (48+(Int.tmod x1 10)))])),oS hx4] [3,8,9,10,11,12,13,14,15] [(3,vS x4)] (bU hC [oQ (show(10:Int)≠0 by decide)] [0,16,17] [(0,vI (wr (Int.tdiv x1 10)))] (lE h))
 refine cK ?_;obtain⟨x5,hx5,h⟩:=bd h;obtain rfl:=so h;exact aV hC [oS hx5] [2,18,19] [(2,vS x5)] zr
theorem mC{a}{k}{r}(h:dW n a k=some r):PQ G 90 [vM rI a,vI k] (vI r):=by
 refine pq aQ Tryz.func90 rfl fun w X hC=>bD hC [4] (qs (aG hC [5] [(5,vI 0)] (qb (iH h (fun x_=>d8 [(0,vM rI a),(1,vI x_.1),(5,vI x_.2)]) lS ?_))));rintro again3 ⟨x1,x2⟩ h;refine qs (aV hC [oN rI a] (fr 6 4) [(9,vK x2 a)] (bA h (fun c1 h=>?_) fun c1 h=>?_))
 ·refine qk (cP (qs ?_));obtain⟨x4,hx4,h⟩:=bd h;refine aV hC [oR rI hx4] (fr 12 6) [(17,vB (!decide (x4=x1)))] (bA h (fun c2 h=>?_) fun c2 h=>qk (aZ hC [1,18,19] [(1,vI (wr (x1+1)))] (aZ hC [5,10,11] [(5,vI (wr (x2+1)))] (lE h))));obtain rfl:=so h;exact aG hC [4] [(4,vI (-1))] zr
 obtain rfl:=so h;exact cK (aG hC [4,20] [(4,vI x1)] zr)
theorem L2{a}{k}{r}(h:gU n a k=some r):PQ G 49 [vM aJ a,vI k] (vI r):=by
 refine pq aQ Tryz.func49 rfl fun w X hC=>bD hC [4] (qs (aG hC [5] [(5,vI 0)] (qb (iH h (fun x_=>d8 [(0,vM aJ a),(1,vI x_.1),(5,vI x_.2)]) lS ?_))));rintro again3 ⟨x1,x2⟩ h;refine qs (aV hC [oN aJ a] (fr 6 4) [(9,vK x2 a)] (bA h (fun c1 h=>?_) fun c1 h=>?_))
 ·refine qk (cP (qs (qs ?_)));obtain⟨x4,hx4,x5,hx5,h⟩:=dO h;refine oL hC bI [oR aJ hx4,oV (eJ G hx5)] (fr 12 8) [(19,vB (!decide (x4.name=x5)))] (bA h (fun c2 h=>?_) fun c2 h=>?_)
  ·obtain rfl:=so h;exact aG hC [4] [(4,vI (-1))] zr
  refine qk (aG hC [1,20,21] [(1,vI (wr (x1+1)))] ?_);obtain⟨x6,hx6,h⟩:=bd h;refine aV hC [oR aJ hx4,oV (mC G hx6)] [1,22,23,24,25,26,27,28] [(1,vI x6)] (aG hC [29,30] [(30,vD (x6<0))] (bA h (fun c3 h=>?_) fun c3 h=>qk (aZ hC [5,10,11] [(5,vI (wr (x2+1)))] (lE h))));obtain rfl:=so h;exact aG hC [4] [(4,vI (-1))] zr
 obtain rfl:=so h;exact cK (aG hC [4,31] [(4,vI x1)] zr)
theorem fX{a}{k}{r}(h:bO n a k=some r):PQ G 130 [vM aA a,vI k] (vI r):=by
 refine pq aQ Tryz.func130 rfl fun w X hC=>bD hC [4] (qs (aG hC [5] [(5,vI 0)] (qb (iH h (fun x_=>d8 [(0,vM aA a),(1,vI x_.1),(5,vI x_.2)]) lS ?_))));rintro again3 ⟨x1,x2⟩ h;refine qs (aV hC [oN aA a] (fr 6 4) [(9,vK x2 a)] (bA h (fun c1 h=>?_) fun c1 h=>?_))
 ·refine qk (cP ?_);obtain⟨x4,hx4,x5,hx5,h⟩:=dO h;refine aV hC [oR aA hx4,oV (mC G hx5)] [1,12,13,14,15,16,17,18] [(1,vI x5)] (qs (aG hC [19,20] [(20,vD (x5<0))] (bA h (fun c2 h=>?_) fun c2 h=>?_)))
  ·obtain rfl:=so h;exact aG hC [4] [(4,vI (-1))] zr
  refine qk (qs (aV hC [oR aA hx4] (fr 21 7) [(27,vB (!decide (x4.const=x5)))] (bA h (fun c3 h=>?_) fun c3 h=>qk (aZ hC [1,28,29] [(1,vI (wr (x5+1)))] (aZ hC [5,10,11] [(5,vI (wr (x2+1)))] (lE h))))));obtain rfl:=so h;exact aG hC [4] [(4,vI (-1))] zr
 obtain rfl:=so h;exact cK (aG hC [4,30] [(4,vI x1)] zr)
theorem Q9{a}{k}{r}(h:gG n a k=some r):PQ G 91 [vM aD a,vI k] (vI r):=by
 refine pq aQ Tryz.func91 rfl fun w X hC=>bD hC [4] (qs (aG hC [5] [(5,vI 0)] (qb (iH h (fun x_=>d8 [(0,vM aD a),(1,vI x_.1),(5,vI x_.2)]) lS ?_))));rintro again3 ⟨x1,x2⟩ h;refine qs (aV hC [oN aD a] (fr 6 4) [(9,vK x2 a)] (bA h (fun c1 h=>?_) fun c1 h=>?_))
 ·refine qk (cP ?_);obtain⟨x4,hx4,x5,hx5,h⟩:=dO h;refine aV hC [oR aD hx4,oV (fX G hx5)] [1,12,13,14,15,16,17,18] [(1,vI x5)] (qs (aG hC [19,20] [(20,vD (x5<0))] (bA h (fun c2 h=>?_) fun c2 h=>?_)))
  ·obtain rfl:=so h;exact aG hC [4] [(4,vI (-1))] zr
  refine qk ?_;obtain⟨x6,hx6,h⟩:=bd h;refine aV hC [oR aD hx4,oV (fX G hx6)] [1,21,22,23,24,25,26,27] [(1,vI x6)] (aG hC [28,29] [(29,vD (x6<0))] (bA h (fun c3 h=>?_) fun c3 h=>qk (aZ hC [5,10,11] [(5,vI (wr (x2+1)))] (lE h))));obtain rfl:=so h;exact aG hC [4] [(4,vI (-1))] zr
 obtain rfl:=so h;exact cK (aG hC [4,30] [(4,vI x1)] zr)
theorem R0(G:GS): ∀(n:Nat) (a:List Expr) (k:Int) {r:Int} (h:w_heldExprS n a k=some r),PQ G 131 [vM aC a,vI k] (vI r):=by
 intro n;induction n with
 |zero=>intro a k r h;rw [w_heldExprS.eq_def] at h;cases h
 |succ n ih=>
  intro a k r h;rw [w_heldExprS.eq_def] at h;dsimp only at h;refine pq aQ Tryz.func131 rfl fun w X hC=>bD hC [4] (qs (aG hC [5] [(5,vI 0)] (qb (iH h (fun x_=>d8 [(0,vM aC a),(1,vI x_.1),(5,vI x_.2)]) lS ?_))));rintro again3 ⟨x1,x2⟩ h;refine qs (aV hC [oN aC a] (fr 6 4) [(9,vK x2 a)] (bA h (fun c1 h=>?_) fun c1 h=>?_))
  ·refine qk (cP (qs ?_));obtain⟨x4,hx4,h⟩:=bd h;refine aV hC [.z (.row (bG x4)),oQ (cF aC hx4 (aO x4))] (fr 12 7) [(18,vB (!decide (x4.kind=x1)))] (bA h (fun c2 h=>?_) fun c2 h=>?_)
   ·obtain rfl:=so h;exact aG hC [4] [(4,vI (-1))] zr
   refine qk (aG hC [1,19,20] [(1,vI (wr (x1+1)))] (qs (aV hC [.z (.row (bG x4)),oQ (cF aC hx4 (aO x4))] (fr 21 7) [(27,vB (!decide (x4.num=wr (x1+1))))] (bA h (fun c3 h=>?_) fun c3 h=>?_))))
   ·obtain rfl:=so h;exact aG hC [4] [(4,vI (-1))] zr
   refine qk (aG hC [1,28,29] [(1,vI (wr ((wr (x1+1))+1)))] ?_);obtain⟨x5,hx5,h⟩:=bd h;refine aV hC [.z (.row (bG x4)),oQ (cF aC hx4 (aO x4)),oV (mC G hx5)] [1,30,31,32,33,34,35,36,37] [(1,vI x5)] (qs (aG hC [38,39] [(39,vD (x5<0))] (bA h (fun c4 h=>?_) fun c4 h=>?_)))
   ·obtain rfl:=so h;exact aG hC [4] [(4,vI (-1))] zr
   refine qk (qs (aV hC [.z (.row (bG x4)),oQ (cF aC hx4 (aO x4))] (fr 40 8) [(47,vB (!decide (x4.index.const=x5)))] (bA h (fun c5 h=>?_) fun c5 h=>?_)))
   ·obtain rfl:=so h;exact aG hC [4] [(4,vI (-1))] zr
   refine qk (aG hC [1,48,49] [(1,vI (wr (x5+1)))] (qs (qs ?_)));obtain⟨x6,hx6,h⟩:=bd h;refine oL hC bI [.z (.row (bG x4)),oQ (cF aC hx4 (aO x4)),oV (eJ G hx6)] (fr 50 9) [(58,vB (!decide (x4.read.array=x6)))] (bA h (fun c6 h=>?_) fun c6 h=>?_)
   ·obtain rfl:=so h;exact aG hC [4] [(4,vI (-1))] zr
   refine qk (aG hC [1,59,60] [(1,vI (wr ((wr (x5+1))+1)))] ?_);obtain⟨x7,hx7,h⟩:=bd h;refine aV hC [.z (.row (bG x4)),oQ (cF aC hx4 (aO x4)),oV (fX G hx7)] [1,61,62,63,64,65,66,67,68] [(1,vI x7)] (qs (aG hC [69,70] [(70,vD (x7<0))] (bA h (fun c7 h=>?_) fun c7 h=>?_)))
   ·obtain rfl:=so h;exact aG hC [4] [(4,vI (-1))] zr
   refine qk ?_;obtain⟨x8,hx8,h⟩:=bd h;refine aV hC [.z (.row (bG x4)),oQ (cF aC hx4 (aO x4)),oV (ih x4.kids x7 hx8)] [1,71,72,73,74,75,76,77] [(1,vI x8)] (aG hC [78,79] [(79,vD (x8<0))] (bA h (fun c8 h=>?_) fun c8 h=>qk (aZ hC [5,10,11] [(5,vI (wr (x2+1)))] (lE h))));obtain rfl:=so h;exact aG hC [4] [(4,vI (-1))] zr
  obtain rfl:=so h;exact cK (aG hC [4,80] [(4,vI x1)] zr)
theorem Q7{a}{k}{r}(h:gF n a k=some r):PQ G 92 [vM aE a,vI k] (vI r):=by
 refine pq aQ Tryz.func92 rfl fun w X hC=>bD hC [4] (qs (aG hC [5] [(5,vI 0)] (qb (iH h (fun x_=>d8 [(0,vM aE a),(1,vI x_.1),(5,vI x_.2)]) lS ?_))));rintro again3 ⟨x1,x2⟩ h;refine qs (aV hC [oN aE a] (fr 6 4) [(9,vK x2 a)] (bA h (fun c1 h=>?_) fun c1 h=>?_))
 ·refine qk (cP (qs (qs ?_)));obtain⟨x4,hx4,x5,hx5,h⟩:=dO h;refine oL hC bI [oR aE hx4,oV (eJ G hx5)] (fr 12 9) [(20,vB (!decide (x4.write.array=x5)))] (bA h (fun c2 h=>?_) fun c2 h=>?_)
  ·obtain rfl:=so h;exact aG hC [4] [(4,vI (-1))] zr
  refine qk (aG hC [1,21,22] [(1,vI (wr (x1+1)))] ?_);obtain⟨x6,hx6,h⟩:=bd h;refine aV hC [oR aE hx4,oV (fX G hx6)] [1,23,24,25,26,27,28,29,30] [(1,vI x6)] (qs (aG hC [31,32] [(32,vD (x6<0))] (bA h (fun c3 h=>?_) fun c3 h=>?_)))
  ·obtain rfl:=so h;exact aG hC [4] [(4,vI (-1))] zr
  refine qk (qs (aV hC [oR aE hx4] (fr 33 8) [(40,vB (!decide (x4.value.kind=x6)))] (bA h (fun c4 h=>?_) fun c4 h=>?_)))
  ·obtain rfl:=so h;exact aG hC [4] [(4,vI (-1))] zr
  refine qk (aG hC [1,41,42] [(1,vI (wr (x6+1)))] (qs (aV hC [oR aE hx4] (fr 43 8) [(50,vB (!decide (x4.value.num=wr (x6+1))))] (bA h (fun c5 h=>?_) fun c5 h=>?_))))
  ·obtain rfl:=so h;exact aG hC [4] [(4,vI (-1))] zr
  refine qk (aG hC [1,51,52] [(1,vI (wr ((wr (x6+1))+1)))] ?_);obtain⟨x7,hx7,h⟩:=bd h;refine aV hC [oR aE hx4,oV (mC G hx7)] [1,53,54,55,56,57,58,59,60,61] [(1,vI x7)] (qs (aG hC [62,63] [(63,vD (x7<0))] (bA h (fun c6 h=>?_) fun c6 h=>?_)))
  ·obtain rfl:=so h;exact aG hC [4] [(4,vI (-1))] zr
  refine qk (qs (aV hC [oR aE hx4] (fr 64 9) [(72,vB (!decide (x4.value.index.const=x7)))] (bA h (fun c7 h=>?_) fun c7 h=>?_)))
  ·obtain rfl:=so h;exact aG hC [4] [(4,vI (-1))] zr
  refine qk (aG hC [1,73,74] [(1,vI (wr (x7+1)))] (qs (qs ?_)));obtain⟨x8,hx8,h⟩:=bd h;refine oL hC bI [oR aE hx4,oV (eJ G hx8)] (fr 75 10) [(84,vB (!decide (x4.value.read.array=x8)))] (bA h (fun c8 h=>?_) fun c8 h=>?_)
  ·obtain rfl:=so h;exact aG hC [4] [(4,vI (-1))] zr
  refine qk (aG hC [1,85,86] [(1,vI (wr ((wr (x7+1))+1)))] ?_);obtain⟨x9,hx9,h⟩:=bd h;refine aV hC [oR aE hx4,oV (fX G hx9)] [1,87,88,89,90,91,92,93,94,95] [(1,vI x9)] (qs (aG hC [96,97] [(97,vD (x9<0))] (bA h (fun c9 h=>?_) fun c9 h=>?_)))
  ·obtain rfl:=so h;exact aG hC [4] [(4,vI (-1))] zr
  refine qk ?_;obtain⟨x10,hx10,h⟩:=bd h;refine aV hC [oR aE hx4,oV (R0 G n x4.value.kids x9 hx10)] [1,98,99,100,101,102,103,104,105] [(1,vI x10)] (aG hC [106,107] [(107,vD (x10<0))] (bA h (fun c10 h=>?_) fun c10 h=>qk (aZ hC [5,10,11] [(5,vI (wr (x2+1)))] (lE h))));obtain rfl:=so h;exact aG hC [4] [(4,vI (-1))] zr
 obtain rfl:=so h;exact cK (aG hC [4,108] [(4,vI x1)] zr)
theorem Q8{a}{k}{r}(h:jA n a k=some r):PQ G 50 [vM aF a,vI k] (vI r):=by
 refine pq aQ Tryz.func50 rfl fun w X hC=>bD hC [4] (qs (aG hC [5] [(5,vI 0)] (qb (iH h (fun x_=>d8 [(0,vM aF a),(1,vI x_.1),(5,vI x_.2)]) lS ?_))));rintro again3 ⟨x1,x2⟩ h;refine qs (aV hC [oN aF a] (fr 6 4) [(9,vK x2 a)] (bA h (fun c1 h=>?_) fun c1 h=>?_))
 ·refine qk (cP ?_);obtain⟨x4,hx4,x5,hx5,h⟩:=dO h;refine aV hC [oR aF hx4,oV (Q9 G hx5)] [1,12,13,14,15,16,17,18] [(1,vI x5)] (qs (aG hC [19,20] [(20,vD (x5<0))] (bA h (fun c2 h=>?_) fun c2 h=>?_)))
  ·obtain rfl:=so h;exact aG hC [4] [(4,vI (-1))] zr
  refine qk ?_;obtain⟨x6,hx6,h⟩:=bd h;refine aV hC [oR aF hx4,oV (Q7 G hx6)] [1,21,22,23,24,25,26,27] [(1,vI x6)] (aG hC [28,29] [(29,vD (x6<0))] (bA h (fun c3 h=>?_) fun c3 h=>qk (aZ hC [5,10,11] [(5,vI (wr (x2+1)))] (lE h))));obtain rfl:=so h;exact aG hC [4] [(4,vI (-1))] zr
 obtain rfl:=so h;exact cK (aG hC [4,30] [(4,vI x1)] zr)
theorem qZ{a}{k}{r}(h:eN n a k=some r):PQ G 14 [V.agg (cT a),vI k] (vI r):=by
 refine pq aQ Tryz.func14 rfl fun w X hC=>aV hC [.z (.b (true))] [2,4] [(2,V.tp (cJ a))] ?_;obtain⟨x1,hx1,h⟩:=bd h;refine aV hC [oV (L2 G hx1)] [1,5,6,7,8] [(1,vI x1)] (qs (aG hC [9,10] [(10,vD (x1<0))] (bA h (fun c1 h=>?_) fun c1 h=>?_)))
 ·obtain rfl:=so h;exact aG hC [4] [(4,vI (-1))] zr
 refine qk ?_;obtain⟨x2,hx2,h⟩:=bd h;refine aV hC [oV (Q8 G hx2)] [1,11,12,13,14] [(1,vI x2)] (qs (aG hC [15,16] [(16,vD (x2<0))] (bA h (fun c2 h=>?_) fun c2 h=>?_)))
 ·obtain rfl:=so h;exact aG hC [4] [(4,vI (-1))] zr
 obtain rfl:=so h;exact qk (aG hC [4,17] [(4,vI x2)] zr)
end Go.Lift
