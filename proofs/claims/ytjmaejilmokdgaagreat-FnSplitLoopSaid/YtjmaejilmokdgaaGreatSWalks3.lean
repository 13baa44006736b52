/- The walks: the code computes what the plain functions say. -/
import Derived.Test.YtjmaejilmokdgaaGreatSModels
import Derived.Test.YtjmaejilmokdgaaGreatSWalks2
set_option maxRecDepth 10000
set_option linter.unusedVariables false
namespace Go.Lift
open Go Go.Proofs
variable (G:GS) {n:Nat}
theorem T3{x}{r}(h:mM n x=some r):PQ G 245 [V.agg (cV x)] (V.agg (cV r)):=by refine pq aM Tryz.func245 rfl fun w X hC=>rq hC [.z (.nat 20),.z (.nat 21)] [1,2] [(1,V.ref 20 0),(2,V.ref 21 0)] [(20,some (E.cells (cV x))),(21,sc [vS [],aP,vI 0,vI 0,aP,vI 0,vS [],aP,aP])] [(20,true),(21,true)] ?_;obtain⟨x1,hx1,h⟩:=bd h;refine o5 hC [oV (q6 G hx1)] (fr 3 4) [(20,sc [vS x1.array,vM aB x1.subs,vI x.value.kind,vI x.value.num,vM rI x.value.index.coefs,vI x.value.index.const,vS x.value.read.array,vM aB x.value.read.subs,vM aL x.value.kids])] [] ?_;obtain⟨x2,hx2,h⟩:=bd h;cases h;exact o5 hC [oV (T6 G n x.value hx2)] (fr 7 4) [(20,sc [vS x1.array,vM aB x1.subs,vI x2.kind,vI x2.num,vM rI x2.index.coefs,vI x2.index.const,vS x2.read.array,vM aB x2.read.subs,vM aL x2.kids])] [] (kL hC [11] [(21,sc [vS x1.array,vM aB x1.subs,vI x2.kind,vI x2.num,vM rI x2.index.coefs,vI x2.index.const,vS x2.read.array,vM aB x2.read.subs,vM aL x2.kids])] [] zr)
theorem wX{list}{r}(h:iL n list=some r):VQ G 208 [] [vM aH list] (ms 0 1 9 aH r) [ar 91 1 9 aH r]:=by
 refine vq aM Tryz.func208 rfl fun w X β0 hC hg=>bJ hC [2] (rq hC [.z (.nat 20)] [3,6] [(3,ms 20 1 9 aH [])] [(20,some (ar 91 1 9 aH []))] [(20,true)] (qs (aU hC [oN aH list] [7,8,9] [(7,vM aH list),(8,vI (list.length:Int)),(9,vI 0)] (qb (l7 h (fun x_ g_=>cM [(3,ms 20 g_ 9 aH x_.1),(7,vM aH list),(8,vI (list.length:Int)),(9,vI x_.2)] [(20,ar 91 g_ 9 aH x_.1)] [20]) 1 (lS) ?_)))));rintro again4 ⟨x1,x2⟩ g3 h;refine aF hC [10] [(10,vK x2 list)] (nG h (fun c1 h=>?_) fun c1 h=>?_)
 ·refine qk (dU ?_);obtain⟨x5,hx5,h⟩:=bd h;refine rq hC [oR aH hx5,.z (.nat 21)] [5,11,12] [(5,V.ref 21 0)] [(21,some (E.cells (cV x5)))] [(21,true)] ?_;obtain⟨x6,hx6,x7,hx7,h⟩:=dB h;exact rk hC [oV (T3 G hx6),.z (.int 0),oA (aQ aH hx7),oM 9 d4 x1,oM 9 d4 [x6]] [3,13,14,15,16,17] [(3,ms 20 (g3+1) 9 aH x7)] [(20,some (ar 91 (g3+1) 9 aH x7))] [] (bC hC [9,18] [(9,vI (wr (x2+1)))] ⟨(x7,wr (x2+1)),(g3+1),h,lS⟩)
 obtain rfl:=so h;exact dF (aF hC [2,19] [(2,ms 20 g3 9 aH x1)] (xR hC 2 20 (ms 0 1 9 aH x1) (ar 91 1 9 aH x1)))
theorem T5{x}{r}(h:rN n x=some r):PQ G 244 [V.agg (iG x)] (V.agg (iG r)):=by refine pq aM Tryz.func244 rfl fun w X hC=>rq hC [.z (.nat 20),.z (.nat 21)] [1,2] [(1,V.ref 20 0),(2,V.ref 21 0)] [(20,some (E.cells (iG x))),(21,sc [aP,aP])] [(20,true),(21,true)] ?_;obtain⟨x1,hx1,h⟩:=bd h;refine o5 hC [oC [] [22] (iD G hx1)] (fr 3 4) [(22,some (ar 67 1 2 aB x1)),(20,sc [ms 22 1 2 aB x1,vM aB x.hi])] [(22,true)] ?_;obtain⟨x2,hx2,h⟩:=bd h;cases h;exact o5 hC [oC [] [23] (iD G hx2)] (fr 7 4) [(23,some (ar 67 1 2 aB x2)),(20,sc [ms 22 1 2 aB x1,ms 23 1 2 aB x2])] [(23,true)] (o5 hC [.z (.at 2),.z (.fz 22 [] [20]),.z (.at 2),.z (.fz 23 [] [20])] [11] [(20,sc [vM aB x1,vM aB x2]),(22,none),(23,none),(21,sc [vM aB x1,vM aB x2])] [] zr)
theorem wZ{list}{r}(h:iN n list=some r):VQ G 207 [] [vM aC list] (ms 0 1 2 aC r) [ar 58 1 2 aC r]:=by
 refine vq aM Tryz.func207 rfl fun w X β0 hC hg=>bJ hC [2] (rq hC [.z (.nat 20)] [3,6] [(3,ms 20 1 2 aC [])] [(20,some (ar 58 1 2 aC []))] [(20,true)] (qs (aU hC [oN aC list] [7,8,9] [(7,vM aC list),(8,vI (list.length:Int)),(9,vI 0)] (qb (l7 h (fun x_ g_=>cM [(3,ms 20 g_ 2 aC x_.1),(7,vM aC list),(8,vI (list.length:Int)),(9,vI x_.2)] [(20,ar 58 g_ 2 aC x_.1)] [20]) 1 (lS) ?_)))));rintro again4 ⟨x1,x2⟩ g3 h;refine aF hC [10] [(10,vK x2 list)] (nG h (fun c1 h=>?_) fun c1 h=>?_)
 ·refine qk (dU ?_);obtain⟨x5,hx5,h⟩:=bd h;refine rq hC [oR aC hx5,.z (.nat 21)] [5,11,12] [(5,V.ref 21 0)] [(21,some (E.cells (iG x5)))] [(21,true)] ?_;obtain⟨x6,hx6,x7,hx7,h⟩:=dB h;exact rk hC [oV (T5 G hx6),.z (.int 0),oA (aQ aC hx7),oM 2 bX x1,oM 2 bX [x6]] [3,13,14,15,16,17] [(3,ms 20 (g3+1) 2 aC x7)] [(20,some (ar 58 (g3+1) 2 aC x7))] [] (bC hC [9,18] [(9,vI (wr (x2+1)))] ⟨(x7,wr (x2+1)),(g3+1),h,lS⟩)
 obtain rfl:=so h;exact dF (aF hC [2,19] [(2,ms 20 g3 2 aC x1)] (xR hC 2 20 (ms 0 1 2 aC x1) (ar 58 1 2 aC x1)))
theorem T4{x}{r}(h:mN n x=some r):PQ G 168 [V.agg (kO x)] (V.agg (kO r)):=by refine pq aM Tryz.func168 rfl fun w X hC=>rq hC [.z (.nat 20),.z (.nat 21)] [1,2] [(1,V.ref 20 0),(2,V.ref 21 0)] [(20,some (E.cells (kO x))),(21,sc [aP,aP])] [(20,true),(21,true)] ?_;obtain⟨x1,hx1,h⟩:=bd h;refine o5 hC [oC [] [22] (wZ G hx1)] (fr 3 4) [(22,some (ar 58 1 2 aC x1)),(20,sc [ms 22 1 2 aC x1,vM aH x.body])] [(22,true)] ?_;obtain⟨x2,hx2,h⟩:=bd h;cases h;exact o5 hC [oC [] [23] (wX G hx2)] (fr 7 4) [(23,some (ar 91 1 9 aH x2)),(20,sc [ms 22 1 2 aC x1,ms 23 1 9 aH x2])] [(23,true)] (o5 hC [.z (.at 2),.z (.fz 22 [] [20]),.z (.at 2),.z (.fz 23 [] [20])] [11] [(20,sc [vM aC x1,vM aH x2]),(22,none),(23,none),(21,sc [vM aC x1,vM aH x2])] [] zr)
theorem wY{list}{r}(h:iM n list=some r):VQ G 112 [] [vM aD list] (ms 0 1 2 aD r) [ar 62 1 2 aD r]:=by
 refine vq aM Tryz.func112 rfl fun w X β0 hC hg=>bJ hC [2] (rq hC [.z (.nat 20)] [3,6] [(3,ms 20 1 2 aD [])] [(20,some (ar 62 1 2 aD []))] [(20,true)] (qs (aU hC [oN aD list] [7,8,9] [(7,vM aD list),(8,vI (list.length:Int)),(9,vI 0)] (qb (l7 h (fun x_ g_=>cM [(3,ms 20 g_ 2 aD x_.1),(7,vM aD list),(8,vI (list.length:Int)),(9,vI x_.2)] [(20,ar 62 g_ 2 aD x_.1)] [20]) 1 (lS) ?_)))));rintro again4 ⟨x1,x2⟩ g3 h;refine aF hC [10] [(10,vK x2 list)] (nG h (fun c1 h=>?_) fun c1 h=>?_)
 ·refine qk (dU ?_);obtain⟨x5,hx5,h⟩:=bd h;refine rq hC [oR aD hx5,.z (.nat 21)] [5,11,12] [(5,V.ref 21 0)] [(21,some (E.cells (kO x5)))] [(21,true)] ?_;obtain⟨x6,hx6,x7,hx7,h⟩:=dB h;exact rk hC [oV (T4 G hx6),.z (.int 0),oA (aQ aD hx7),oM 2 b9 x1,oM 2 b9 [x6]] [3,13,14,15,16,17] [(3,ms 20 (g3+1) 2 aD x7)] [(20,some (ar 62 (g3+1) 2 aD x7))] [] (bC hC [9,18] [(9,vI (wr (x2+1)))] ⟨(x7,wr (x2+1)),(g3+1),h,lS⟩)
 obtain rfl:=so h;exact dF (aF hC [2,19] [(2,ms 20 g3 2 aD x1)] (xR hC 2 20 (ms 0 1 2 aD x1) (ar 62 1 2 aD x1)))
theorem H5{x}{r}(h:pK n x=some r):PQ G 167 [V.agg [vS x.name,vM rI x.dims]] (V.agg [vS r.name,vM rI r.dims]):=by refine pq aM Tryz.func167 rfl fun w X hC=>rq hC [.z (.nat 20),.z (.nat 21)] [1,2] [(1,V.ref 20 0),(2,V.ref 21 0)] [(20,sc [vS x.name,vM rI x.dims]),(21,sc [vS [],aP])] [(20,true),(21,true)] ?_;obtain⟨x1,hx1,h⟩:=bd h;cases h;exact o5 hC [.z (.nat 22),oA (aQ rI hx1),oI [],oI x.dims] (fr 3 5) [(22,some (ar 3 2 1 rI x1)),(20,sc [vS x.name,ms 22 2 1 rI x1])] [(22,true)] (o5 hC [.z (.at 2),.z (.fz 22 [] [20])] [8] [(20,sc [vS x.name,vM rI x1]),(22,none),(21,sc [vS x.name,vM rI x1])] [] zr)
theorem vG{list}{r}(h:gP n list=some r):VQ G 111 [] [vM aJ list] (ms 0 1 2 aJ r) [ar 81 1 2 aJ r]:=by
 refine vq aM Tryz.func111 rfl fun w X β0 hC hg=>bJ hC [2] (rq hC [.z (.nat 20)] [3,6] [(3,ms 20 1 2 aJ [])] [(20,some (ar 81 1 2 aJ []))] [(20,true)] (qs (aU hC [oN aJ list] [7,8,9] [(7,vM aJ list),(8,vI (list.length:Int)),(9,vI 0)] (qb (l7 h (fun x_ g_=>cM [(3,ms 20 g_ 2 aJ x_.1),(7,vM aJ list),(8,vI (list.length:Int)),(9,vI x_.2)] [(20,ar 81 g_ 2 aJ x_.1)] [20]) 1 (lS) ?_)))));rintro again4 ⟨x1,x2⟩ g3 h;refine aF hC [10] [(10,vK x2 list)] (nG h (fun c1 h=>?_) fun c1 h=>?_)
 ·refine qk (dU ?_);obtain⟨x5,hx5,h⟩:=bd h;refine rq hC [oR aJ hx5,.z (.nat 21)] [5,11,12] [(5,V.ref 21 0)] [(21,sc [vS x5.name,vM rI x5.dims])] [(21,true)] ?_;obtain⟨x6,hx6,x7,hx7,h⟩:=dB h;exact rk hC [oV (H5 G hx6),.z (.int 0),oA (aQ aJ hx7),oM 2 f9 x1,oM 2 f9 [x6]] [3,13,14,15,16,17] [(3,ms 20 (g3+1) 2 aJ x7)] [(20,some (ar 81 (g3+1) 2 aJ x7))] [] (bC hC [9,18] [(9,vI (wr (x2+1)))] ⟨(x7,wr (x2+1)),(g3+1),h,lS⟩)
 obtain rfl:=so h;exact dF (aF hC [2,19] [(2,ms 20 g3 2 aJ x1)] (xR hC 2 20 (ms 0 1 2 aJ x1) (ar 81 1 2 aJ x1)))
theorem zG{x}{r}(h:jD n x=some r):PQ G 46 [V.agg (bI x)] (V.agg (bI r)):=by refine pq aM Tryz.func46 rfl fun w X hC=>rq hC [.z (.nat 20),.z (.nat 21)] [1,2] [(1,V.ref 20 0),(2,V.ref 21 0)] [(20,some (E.cells (bI x))),(21,sc [aP,aP])] [(20,true),(21,true)] ?_;obtain⟨x1,hx1,h⟩:=bd h;refine o5 hC [oC [] [22] (vG G hx1)] (fr 3 4) [(22,some (ar 81 1 2 aJ x1)),(20,sc [ms 22 1 2 aJ x1,vM aD x.parts])] [(22,true)] ?_;obtain⟨x2,hx2,h⟩:=bd h;cases h;exact o5 hC [oC [] [23] (wY G hx2)] (fr 7 4) [(23,some (ar 62 1 2 aD x2)),(20,sc [ms 22 1 2 aJ x1,ms 23 1 2 aD x2])] [(23,true)] (o5 hC [.z (.at 2),.z (.fz 22 [] [20]),.z (.at 2),.z (.fz 23 [] [20])] [11] [(20,sc [vM aJ x1,vM aD x2]),(22,none),(23,none),(21,sc [vM aJ x1,vM aD x2])] [] zr)
theorem aGh{p}{part}{loop}{r}(h:I3 n p part loop=some r):PQ G 47 [V.agg (bI p),vI part,vI loop] (vB r):=by
 refine pq aM Tryz.func47 rfl fun w X hC=>aU hC [.z (.b (true))] [3,6] [(3,V.tp (bP p))] (vj h (fun x_=>cX [(6,vB x_)]) (fun j1 h=>?_) fun x4 h=>?_)
 ·obtain⟨x2,hx2,h⟩:=bd h;refine aR h (fun c1 h=>aY hC ([oV (cU G hx2)]++rF 3 c1++sF 19) (fr 6 29) [(6,vB false)] (lE h)) fun c1 h=>?_;refine aR h (fun c2 h=>aY hC ([oV (cU G hx2)]++rT 3 c1++rF 6 c2++sF 13) (fr 6 29) [(6,vB false)] (lE h)) fun c2 h=>?_;refine aR h (fun c3 h=>aY hC ([oV (cU G hx2)]++rT 3 c1++rT 4 c2++[oN aD p.parts,oT c2,oT c2]++rF 3 c3++sF 10) (fr 6 29) [(6,vB false)] (lE h)) fun c3 h=>?_;refine aR h (fun c4 h=>aY hC ([oV (cU G hx2)]++rT 3 c1++rT 4 c2++[oN aD p.parts,oT c2,oT c2]++rT 3 c3++rF 10 c4) (fr 6 29) [(6,vB false)] (lE h)) fun c4 h=>?_;obtain⟨x3,hx3,h⟩:=bd h;exact aY hC ([oV (cU G hx2)]++rT 3 c1++rT 4 c2++[oN aD p.parts,oT c2,oT c2]++rT 3 c3++rT 5 c4++[oR aD hx3]++rT 3 c4++[oN aC x3.nest,oT c4,oT c4]) (fr 6 29) [(6,vD (loop<(x3.nest.length:Int)))] (lE h)
 obtain rfl:=so h;exact zr
theorem aEN{loop}{r}(h:xX n loop=some r):PQ G 114 [V.agg (iG loop)] (vB r):=by
 refine pq aM Tryz.func114 rfl fun w X hC=>aU hC [.z (.b (true))] [1,2] [(1,V.tp (mF loop))] (qs (aF hC [3] [(3,vI 0)] (qb (jQ h (fun x_=>cX [(1,V.tp (mF loop)),(3,vI x_)]) lS ?_))));rintro again2 x1 h;refine qs (aU hC [oN aB loop.lo] (fr 5 5) [(9,vK x1 loop.lo)] (aZ h (fun c1 h=>?_) fun c1 h=>?_))
 ·refine qk (dU ?_);obtain⟨x3,hx3,x4,hx4,h⟩:=dB h;refine aU hC [oR aB hx3,oV (l6 G hx4)] (fr 12 7) [(18,vD ((0:Int)<x4))] (aZ h (fun c2 h=>?_) fun c2 h=>qk (bC hC [3,10,11] [(3,vI (wr (x1+1)))] (lE h)));cases h;exact aF hC [2] [(2,vB false)] zr
 refine dF (qs (aF hC [4] [(4,vI 0)] (qb (jQ h (fun x_=>cX [(1,V.tp (mF loop)),(4,vI x_)]) lS ?_))));rintro again6 x5 h;refine qs (aU hC [oN aB loop.hi] (fr 19 5) [(23,vK x5 loop.hi)] (aZ h (fun c3 h=>?_) fun c3 h=>?_))
 ·refine qk (dU ?_);obtain⟨x7,hx7,x8,hx8,h⟩:=dB h;refine aU hC [oR aB hx7,oV (l6 G hx8)] (fr 26 7) [(32,vD ((0:Int)<x8))] (aZ h (fun c4 h=>?_) fun c4 h=>qk (bC hC [4,24,25] [(4,vI (wr (x5+1)))] (lE h)));cases h;exact aF hC [2] [(2,vB false)] zr
 cases h;exact dF (aF hC [2] [(2,vB true)] zr)
theorem aCY{x}{r}(h:uN n x=some r):PQ G 48 [V.agg (iG x)] (V.tup [vI r.1,vI r.2.1,vB r.2.2]):=by
 refine pq aM Tryz.func48 rfl fun w X hC=>aU hC [.z (.b (true))] (fr 1 4) [(1,V.tp (mF x))] (qs (vj h (fun x_=>cX [(1,V.tp (mF x)),(19,vB x_)]) (fun j1 h=>?_) fun x3 h=>?_))
 ·refine aR h (fun c1 h=>?_) fun c1 h=>aY hC ([oN aB x.lo]++rT 5 c1++sT 4) (fr 5 15) [(19,vB true)] (lE h);refine aR h (fun c2 h=>?_) fun c2 h=>aY hC ([oN aB x.lo]++rF 3 c1++[oN aB x.hi,oF c1,oF c1]++rT 4 c2) (fr 5 15) [(19,vB true)] (lE h);obtain⟨x2,hx2,h⟩:=bd h;exact aY hC ([oN aB x.lo]++rF 3 c1++[oN aB x.hi,oF c1,oF c1,oF c2,oF c2,oV (aEN G hx2),oF c2,oF c2]) (fr 5 15) [(19,vB (!x2))] (lE h)
 refine aZ h (fun c3 h=>?_) fun c3 h=>?_
 ·cases h;exact aF hC [2,3,4] [(2,vI 0),(3,vI 0),(4,vB false)] zr
 refine qk (qs ?_);obtain⟨x4,hx4,x5,hx5,h⟩:=dB h;cases h;exact pO hC bO [oR aB hx4,oR aB hx5] [2,3,4,20,21,22,23,24,25,26,27,28,29] [(2,vI x4.const),(3,vI x5.const),(4,vB true)] zr
theorem aEA{p}{part}{many}{parts}{r}(h:xL n p part many parts=some r):PQ G 54 [V.agg (bI p),vI part,vI many,vM aD parts] (V.tup [V.agg (bI r.1),vB r.2]):=by
 refine pq aM Tryz.func54 rfl fun w X hC=>rq hC [.z (.b (true)),.z (.nat 20)] [4,8,9] [(4,V.tp (bP p)),(8,V.ref 20 0)] [(20,sc [aP,aP])] [(20,true)] ?_;obtain⟨x1,hx1,h⟩:=bd h;refine rq hC [oC [] [21,22] (wU G hx1),.z (.nat 23)] [10,12,13] [(10,V.ref 23 0)] [(21,some (ar 81 1 2 aJ x1.arrays)),(22,some (E.tree l8 2 1 (x1.parts.map aD) [])),(23,sc [ms 21 1 2 aJ x1.arrays,ms 22 1 2 aD x1.parts])] [(21,true),(22,true),(23,true)] (rq hC [.z (.nat 24)] [11,14,15,16] [(11,V.ref 24 0)] [(24,sc [ms 21 1 2 aJ x1.arrays,aP])] [(24,true)] (qs (qw (lk hC [.shd 22,.fz 22 [] [23]] [] [] [(22,none),(23,sc [ms 21 1 2 aJ x1.arrays,vM aD x1.parts])] []) ?_)));obtain⟨x2,hx2,x3,hx3,x4,hx4,h⟩:=lN h;obtain⟨x5,hx5,x6,hx6,h⟩:=dB h;refine pV hC bO [.z (.nat 25),oA (xJ aD hx2),oM 2 b9 x1.parts,oA (aQ aD hx3),oM 2 b9 [],oM 2 b9 x2,oA (aQ aD hx4),oM 2 b9 x3,oM 2 b9 parts,oA (L2 aD hx5),oM 2 b9 x1.parts,oA (aQ aD hx6),oM 2 b9 x4,oM 2 b9 x5] (fr 17 16) [(25,some (ar 62 4 2 aD x6)),(24,sc [ms 21 1 2 aJ x1.arrays,ms 25 4 2 aD x6])] [(25,true)] (qs ?_);obtain⟨x7,hx7,h⟩:=bd h;refine rq hC [.z (.at 3),.z (.fz 21 [] [23,24]),.z (.at 3),.z (.fz 25 [] [24]),oV (cU G hx7)] [33,34,35] [(35,vB (!x7))] [(23,some (E.cells (bI x1))),(24,sc [vM aJ x1.arrays,vM aD x6]),(21,none),(25,none)] [] (aZ h (fun c1 h=>?_) fun c1 h=>?_)
 ·cases h;exact yC hC [9,36] [(9,vB false)] [(20,sc [aP,aP])] [] zr
 refine qk ?_;obtain⟨x8,hx8,h⟩:=bd h;cases h;exact rq hC [oC [] [26,27] (wU G hx8)] [9,37,38] [(9,vB true)] [(26,some (ar 81 1 2 aJ x8.arrays)),(27,some (E.tree l8 2 1 (x8.parts.map aD) [])),(20,sc [ms 26 1 2 aJ x8.arrays,ms 27 1 2 aD x8.parts])] [(26,true),(27,true)] (qw (lk hC [.fz 26 [] [20]] [] [] [(20,sc [vM aJ x8.arrays,ms 27 1 2 aD x8.parts]),(26,none)] []) (qw (lk hC [.shd 27,.fz 27 [] [20]] [] [] [(27,none),(20,some (E.cells (bI x8)))] []) zr))
theorem pG(G:GS)(n:Nat)(x:Arr)(y:Arr){r:Bool}(h:gC n x y=some r):PQ G 56 [V.agg [vS x.name,vM rI x.dims],V.agg [vS y.name,vM rI y.dims]] (vB r):=by
 refine pq aM Tryz.func56 rfl fun w X hC=>aU hC [.z (.b (true)),.z (.b (true))] [2,3,4] [(2,V.tp [T.str x.name,T.sl (x.dims.map rI)]),(3,V.tp [T.str y.name,T.sl (List.map rI y.dims)])] (vj h (fun x_=>cX [(4,vB x_)]) (fun j1 h=>?_) fun x3 h=>?_)
 ·refine aR h (fun c1 h=>aY hC (rF 6 c1) (fr 4 13) [(4,vB false)] (lE h)) fun c1 h=>?_;obtain⟨x2,hx2,h⟩:=bd h;exact aY hC (rT 5 c1++[oV (pQ G hx2),oT c1]) (fr 4 13) [(4,vB x2)] (lE h)
 obtain rfl:=so h;exact zr
theorem w7(G:GS)(n:Nat)(s1:List Loop)(s2:List Loop)(eqF:FuncId)(eq:Loop→Loop→Option Bool)(heq: ∀(q0:Loop) (q1:Loop) r,eq q0 q1=some r→PQ G eqF [V.agg (iG q0),V.agg (iG q1)] (vB r)){r:Bool}(h:lC n s1 s2 eq=some r):PQ G 123 [vM aC s1,vM aC s2,V.fn eqF []] (vB r):=by
 refine pq aM Tryz.func123 rfl fun w X hC=>bJ hC [6] (qs (aU hC [oN aC s1,oN aC s2] (fr 10 5) [(14,vB (!decide ((s1.length:Int)=(s2.length:Int))))] (aZ h (fun c1 h=>?_) fun c1 h=>?_)))
 ·cases h;exact aF hC [6] [(6,vB false)] zr
 refine qk (qs (aU hC [oN aC s1] [15,16,17] [(15,vM aC s1),(16,vI (s1.length:Int)),(17,vI 0)] (qb (jQ h (fun x_=>cX [(1,vM aC s2),(2,V.fn eqF []),(15,vM aC s1),(16,vI (s1.length:Int)),(17,vI x_)]) lS ?_))));rintro again2 x1 h;refine aF hC [18] [(18,vK x1 s1)] (nG h (fun c2 h=>?_) fun c2 h=>?_)
 ·refine qk (dU ?_);obtain⟨x3,hx3,h⟩:=bd h;refine rq hC [oR aC hx3,.z (.nat 20)] [7,8,19,20,21] [(7,vI x1),(8,V.ref 20 0)] [(20,some (E.cells (iG x3)))] [(20,true)] ?_;obtain⟨x4,hx4,h⟩:=bd h;refine rq hC [oR aC hx4,.z (.nat 21)] [9,22,23,24,25] [(9,V.ref 21 0)] [(21,some (E.cells (iG x4)))] [(21,true)] ?_;obtain⟨x5,hx5,h⟩:=bd h;refine aU hC [oV (heq x3 x4 _ hx5)] (fr 26 5) [(30,vB (!x5))] (aZ h (fun c3 h=>?_) fun c3 h=>qk (bC hC [17,31] [(17,vI (wr (x1+1)))] (lE h)));cases h;exact aF hC [6] [(6,vB false)] zr
 cases h;exact dF (aF hC [6] [(6,vB true)] zr)
theorem fG(G:GS)(n:Nat)(s1:List Affine)(s2:List Affine)(eqF:FuncId)(eq:Affine→Affine→Option Bool)(heq: ∀(q0:Affine) (q1:Affine) r,eq q0 q1=some r→PQ G eqF [V.agg (aS q0),V.agg (aS q1)] (vB r)){r:Bool}(h:dP n s1 s2 eq=some r):PQ G 125 [vM aB s1,vM aB s2,V.fn eqF []] (vB r):=by
 refine pq aM Tryz.func125 rfl fun w X hC=>bJ hC [6] (qs (aU hC [oN aB s1,oN aB s2] (fr 10 5) [(14,vB (!decide ((s1.length:Int)=(s2.length:Int))))] (aZ h (fun c1 h=>?_) fun c1 h=>?_)))
 ·cases h;exact aF hC [6] [(6,vB false)] zr
 refine qk (qs (aU hC [oN aB s1] [15,16,17] [(15,vM aB s1),(16,vI (s1.length:Int)),(17,vI 0)] (qb (jQ h (fun x_=>cX [(1,vM aB s2),(2,V.fn eqF []),(15,vM aB s1),(16,vI (s1.length:Int)),(17,vI x_)]) lS ?_))));rintro again2 x1 h;refine aF hC [18] [(18,vK x1 s1)] (nG h (fun c2 h=>?_) fun c2 h=>?_)
 ·refine qk (dU ?_);obtain⟨x3,hx3,h⟩:=bd h;refine rq hC [oR aB hx3,.z (.nat 20)] [7,8,19,20,21] [(7,vI x1),(8,V.ref 20 0)] [(20,some (E.cells (aS x3)))] [(20,true)] ?_;obtain⟨x4,hx4,h⟩:=bd h;refine rq hC [oR aB hx4,.z (.nat 21)] [9,22,23,24,25] [(9,V.ref 21 0)] [(21,some (E.cells (aS x4)))] [(21,true)] ?_;obtain⟨x5,hx5,h⟩:=bd h;refine aU hC [oV (heq x3 x4 _ hx5)] (fr 26 5) [(30,vB (!x5))] (aZ h (fun c3 h=>?_) fun c3 h=>qk (bC hC [17,31] [(17,vI (wr (x1+1)))] (lE h)));cases h;exact aF hC [6] [(6,vB false)] zr
 cases h;exact dF (aF hC [6] [(6,vB true)] zr)
theorem eO(G:GS)(n:Nat)(a:Affine)(b:Affine){r:Bool}(h:cR n a b=some r):PQ G 126 [V.agg (aS a),V.agg (aS b)] (vB r):=by
 refine pq aM Tryz.func126 rfl fun w X hC=>aU hC [.z (.b (true)),.z (.b (true))] [2,3,4] [(2,V.tp (bQ a)),(3,V.tp (bQ b))] (vj h (fun x_=>cX [(4,vB x_)]) (fun j1 h=>?_) fun x3 h=>?_)
 ·obtain⟨x2,hx2,h⟩:=bd h;exact aR h (fun c1 h=>aY hC ([oV (pQ G hx2)]++rF 6 c1) (fr 4 13) [(4,vB false)] (lE h)) fun c1 h=>aY hC ([oV (pQ G hx2)]++rT 6 c1) (fr 4 13) [(4,vD (a.const=b.const))] (lE h)
 obtain rfl:=so h;exact zr
theorem U3(G:GS)(n:Nat)(x:Loop)(y:Loop){r:Bool}(h:mV n x y=some r):PQ G 124 [V.agg (iG x),V.agg (iG y)] (vB r):=by
 refine pq aM Tryz.func124 rfl fun w X hC=>aU hC [.z (.b (true)),.z (.b (true))] [2,3,4] [(2,V.tp (mF x)),(3,V.tp (mF y))] (vj h (fun x_=>cX [(4,vB x_)]) (fun j1 h=>?_) fun x4 h=>?_)
 ·obtain⟨x2,hx2,h⟩:=bd h;refine aR h (fun c1 h=>aY hC ([oV (fG G n x.lo y.lo 126 (fun q0 q1=>cR n q0 q1) (fun q0 q1 r h=>eO G n q0 q1 h) hx2)]++rF 6 c1) (fr 4 13) [(4,vB false)] (lE h)) fun c1 h=>?_;obtain⟨x3,hx3,h⟩:=bd h;exact aY hC ([oV (fG G n x.lo y.lo 126 (fun q0 q1=>cR n q0 q1) (fun q0 q1 r h=>eO G n q0 q1 h) hx2)]++rT 5 c1++[oV (fG G n x.hi y.hi 126 (fun q0 q1=>cR n q0 q1) (fun q0 q1 r h=>eO G n q0 q1 h) hx3),oT c1]) (fr 4 13) [(4,vB x3)] (lE h)
 obtain rfl:=so h;exact zr
theorem zO{a}{b}{r}(h:sB n a b=some r):PQ G 59 [vM aC a,vM aC b] (vB r):=by refine pq aM Tryz.func59 rfl fun w X hC=>bJ hC [4] ?_;obtain⟨x1,hx1,h⟩:=bd h;obtain rfl:=so h;exact aU hC [oV (w7 G n a b 124 (fun q0 q1=>mV n q0 q1) (fun q0 q1 r h=>U3 G n q0 q1 h) hx1)] (fr 4 4) [(4,vB x1)] zr
theorem w5(G:GS)(n:Nat)(s1:List Stmt)(s2:List Stmt)(eqF:FuncId)(eq:Stmt→Stmt→Option Bool)(heq: ∀(q0:Stmt) (q1:Stmt) r,eq q0 q1=some r→PQ G eqF [V.agg (cV q0),V.agg (cV q1)] (vB r)){r:Bool}(h:lA n s1 s2 eq=some r):PQ G 60 [vM aH s1,vM aH s2,V.fn eqF []] (vB r):=by
 refine pq aM Tryz.func60 rfl fun w X hC=>bJ hC [6] (qs (aU hC [oN aH s1,oN aH s2] (fr 10 5) [(14,vB (!decide ((s1.length:Int)=(s2.length:Int))))] (aZ h (fun c1 h=>?_) fun c1 h=>?_)))
 ·cases h;exact aF hC [6] [(6,vB false)] zr
 refine qk (qs (aU hC [oN aH s1] [15,16,17] [(15,vM aH s1),(16,vI (s1.length:Int)),(17,vI 0)] (qb (jQ h (fun x_=>cX [(1,vM aH s2),(2,V.fn eqF []),(15,vM aH s1),(16,vI (s1.length:Int)),(17,vI x_)]) lS ?_))));rintro again2 x1 h;refine aF hC [18] [(18,vK x1 s1)] (nG h (fun c2 h=>?_) fun c2 h=>?_)
 ·refine qk (dU ?_);obtain⟨x3,hx3,h⟩:=bd h;refine rq hC [oR aH hx3,.z (.nat 20)] [7,8,19,20,21] [(7,vI x1),(8,V.ref 20 0)] [(20,some (E.cells (cV x3)))] [(20,true)] ?_;obtain⟨x4,hx4,h⟩:=bd h;refine rq hC [oR aH hx4,.z (.nat 21)] [9,22,23,24,25] [(9,V.ref 21 0)] [(21,some (E.cells (cV x4)))] [(21,true)] ?_;obtain⟨x5,hx5,h⟩:=bd h;refine aU hC [oV (heq x3 x4 _ hx5)] (fr 26 5) [(30,vB (!x5))] (aZ h (fun c3 h=>?_) fun c3 h=>qk (bC hC [17,31] [(17,vI (wr (x1+1)))] (lE h)));cases h;exact aF hC [6] [(6,vB false)] zr
 cases h;exact dF (aF hC [6] [(6,vB true)] zr)
theorem w8(G:GS)(n:Nat)(s1:List Expr)(s2:List Expr)(eqF:FuncId)(eq:Expr→Expr→Option Bool)(heq: ∀(q0:Expr) (q1:Expr) r,eq q0 q1=some r→PQ G eqF [V.agg (dK q0),V.agg (dK q1)] (vB r)){r:Bool}(h:lD n s1 s2 eq=some r):PQ G 180 [vM aL s1,vM aL s2,V.fn eqF []] (vB r):=by
 refine pq aM Tryz.func180 rfl fun w X hC=>bJ hC [6] (qs (aU hC [oN aL s1,oN aL s2] (fr 10 5) [(14,vB (!decide ((s1.length:Int)=(s2.length:Int))))] (aZ h (fun c1 h=>?_) fun c1 h=>?_)))
 ·cases h;exact aF hC [6] [(6,vB false)] zr
 refine qk (qs (aU hC [oN aL s1] [15,16,17] [(15,vM aL s1),(16,vI (s1.length:Int)),(17,vI 0)] (qb (jQ h (fun x_=>cX [(1,vM aL s2),(2,V.fn eqF []),(15,vM aL s1),(16,vI (s1.length:Int)),(17,vI x_)]) lS ?_))));rintro again2 x1 h;refine aF hC [18] [(18,vK x1 s1)] (nG h (fun c2 h=>?_) fun c2 h=>?_)
 ·refine qk (dU ?_);obtain⟨x3,hx3,h⟩:=bd h;refine rq hC [.z (.row (eH x3)),.z (.nat 20),oQ (fM aL hx3 (dC x3))] [7,8,19,20,21] [(7,vI x1),(8,V.ref 20 0)] [(20,some (E.cells (dK x3)))] [(20,true)] ?_;obtain⟨x4,hx4,h⟩:=bd h;refine rq hC [.z (.row (eH x4)),.z (.nat 21),oQ (fM aL hx4 (dC x4))] [9,22,23,24,25] [(9,V.ref 21 0)] [(21,some (E.cells (dK x4)))] [(21,true)] ?_;obtain⟨x5,hx5,h⟩:=bd h;refine aU hC [oV (heq x3 x4 _ hx5)] (fr 26 5) [(30,vB (!x5))] (aZ h (fun c3 h=>?_) fun c3 h=>qk (bC hC [17,31] [(17,vI (wr (x1+1)))] (lE h)));cases h;exact aF hC [6] [(6,vB false)] zr
 cases h;exact dF (aF hC [6] [(6,vB true)] zr)
theorem kH{a}{b}{r}(h:kE n a b=some r):PQ G 127 [V.agg (cW a),V.agg (cW b)] (vB r):=by
 refine pq aM Tryz.func127 rfl fun w X hC=>aU hC [.z (.b (true)),.z (.b (true))] [2,3,4] [(2,V.tp (d9 a)),(3,V.tp (d9 b))] (vj h (fun x_=>cX [(4,vB x_)]) (fun j1 h=>?_) fun x3 h=>?_)
 ·refine aR h (fun c1 h=>aY hC (rF 6 c1) (fr 4 13) [(4,vB false)] (lE h)) fun c1 h=>?_;obtain⟨x2,hx2,h⟩:=bd h;exact aY hC (rT 5 c1++[oV (fG G n a.subs b.subs 126 (fun q0 q1=>cR n q0 q1) (fun q0 q1 r h=>eO G n q0 q1 h) hx2),oT c1]) (fr 4 13) [(4,vB x2)] (lE h)
 obtain rfl:=so h;exact zr
theorem aBG(G:GS): ∀(n:Nat) (a:Expr) (b:Expr) {r:Bool} (h:i_exprSame n a b=some r),PQ G 128 [V.agg (dK a),V.agg (dK b)] (vB r):=by
 intro n;induction n with
 |zero=>intro a b r h;rw [i_exprSame.eq_def] at h;cases h
 |succ n ih=>
  intro a b r h;rw [i_exprSame.eq_def] at h;dsimp only at h;refine pq aM Tryz.func128 rfl fun w X hC=>aU hC [.z (.b (true)),.z (.b (true))] [2,3,4] [(2,V.tp (gU a)),(3,V.tp (gU b))] (vj h (fun x_=>cX [(4,vB x_)]) (fun j1 h=>?_) fun x5 h=>?_)
  ·refine aR h (fun c1 h=>aY hC (rF 6 c1++sF 18) (fr 4 34) [(4,vB false)] (lE h)) fun c1 h=>?_;refine aR h (fun c2 h=>aY hC (rT 6 c1++rF 6 c2++sF 12) (fr 4 34) [(4,vB false)] (lE h)) fun c2 h=>?_;obtain⟨x2,hx2,h⟩:=bd h;refine aR h (fun c3 h=>aY hC (rT 6 c1++rT 5 c2++[oV (eO G n a.index b.index hx2),oT c2]++rF 6 c3++sF 6) (fr 4 34) [(4,vB false)] (lE h)) fun c3 h=>?_;obtain⟨x3,hx3,h⟩:=bd h;refine aR h (fun c4 h=>aY hC (rT 6 c1++rT 5 c2++[oV (eO G n a.index b.index hx2),oT c2]++rT 5 c3++[oV (kH G hx3),oT c3]++rF 6 c4) (fr 4 34) [(4,vB false)] (lE h)) fun c4 h=>?_;obtain⟨x4,hx4,h⟩:=bd h;exact aY hC (rT 6 c1++rT 5 c2++[oV (eO G n a.index b.index hx2),oT c2]++rT 5 c3++[oV (kH G hx3),oT c3]++rT 5 c4++[oV (w8 G n a.kids b.kids 128 (fun q0 q1=>i_exprSame n q0 q1) (fun q0 q1 r h=>ih q0 q1 h) hx4),oT c4]) (fr 4 34) [(4,vB x4)] (lE h)
  obtain rfl:=so h;exact zr
theorem aBH(G:GS)(n:Nat)(a:Stmt)(b:Stmt){r:Bool}(h:n4 n a b=some r):PQ G 61 [V.agg (cV a),V.agg (cV b)] (vB r):=by
 refine pq aM Tryz.func61 rfl fun w X hC=>aU hC [.z (.b (true)),.z (.b (true))] [2,3,4] [(2,V.tp (oZ a)),(3,V.tp (oZ b))] (vj h (fun x_=>cX [(4,vB x_)]) (fun j1 h=>?_) fun x4 h=>?_)
 ·obtain⟨x2,hx2,h⟩:=bd h;refine aR h (fun c1 h=>aY hC ([oV (kH G hx2)]++rF 6 c1) (fr 4 13) [(4,vB false)] (lE h)) fun c1 h=>?_;obtain⟨x3,hx3,h⟩:=bd h;exact aY hC ([oV (kH G hx2)]++rT 5 c1++[oV (aBG G n a.value b.value hx3),oT c1]) (fr 4 13) [(4,vB x3)] (lE h)
 obtain rfl:=so h;exact zr
theorem zN(G:GS)(n:Nat)(x:Part)(y:Part){r:Bool}(h:gB n x y=some r):PQ G 58 [V.agg (kO x),V.agg (kO y)] (vB r):=by
 refine pq aM Tryz.func58 rfl fun w X hC=>aU hC [.z (.b (true)),.z (.b (true))] [2,3,4] [(2,V.tp (nN x)),(3,V.tp (nN y))] (vj h (fun x_=>cX [(4,vB x_)]) (fun j1 h=>?_) fun x4 h=>?_)
 ·obtain⟨x2,hx2,h⟩:=bd h;refine aR h (fun c1 h=>aY hC ([oV (zO G hx2)]++rF 6 c1) (fr 4 13) [(4,vB false)] (lE h)) fun c1 h=>?_;obtain⟨x3,hx3,h⟩:=bd h;exact aY hC ([oV (zO G hx2)]++rT 5 c1++[oV (w5 G n x.body y.body 61 (fun q0 q1=>n4 n q0 q1) (fun q0 q1 r h=>aBH G n q0 q1 h) hx3),oT c1]) (fr 4 13) [(4,vB x3)] (lE h)
 obtain rfl:=so h;exact zr
theorem mI(G:GS)(n:Nat)(s1:List Arr)(s2:List Arr)(eqF:FuncId)(eq:Arr→Arr→Option Bool)(heq: ∀(q0:Arr) (q1:Arr) r,eq q0 q1=some r→PQ G eqF [V.agg [vS q0.name,vM rI q0.dims],V.agg [vS q1.name,vM rI q1.dims]] (vB r)){r:Bool}(h:kC n s1 s2 eq=some r):PQ G 62 [vM aJ s1,vM aJ s2,V.fn eqF []] (vB r):=by
 refine pq aM Tryz.func62 rfl fun w X hC=>bJ hC [6] (qs (aU hC [oN aJ s1,oN aJ s2] (fr 10 5) [(14,vB (!decide ((s1.length:Int)=(s2.length:Int))))] (aZ h (fun c1 h=>?_) fun c1 h=>?_)))
 ·cases h;exact aF hC [6] [(6,vB false)] zr
 refine qk (qs (aU hC [oN aJ s1] [15,16,17] [(15,vM aJ s1),(16,vI (s1.length:Int)),(17,vI 0)] (qb (jQ h (fun x_=>cX [(1,vM aJ s2),(2,V.fn eqF []),(15,vM aJ s1),(16,vI (s1.length:Int)),(17,vI x_)]) lS ?_))));rintro again2 x1 h;refine aF hC [18] [(18,vK x1 s1)] (nG h (fun c2 h=>?_) fun c2 h=>?_)
 ·refine qk (dU ?_);obtain⟨x3,hx3,h⟩:=bd h;refine rq hC [oR aJ hx3,.z (.nat 20)] [7,8,19,20,21] [(7,vI x1),(8,V.ref 20 0)] [(20,sc [vS x3.name,vM rI x3.dims])] [(20,true)] ?_;obtain⟨x4,hx4,h⟩:=bd h;refine rq hC [oR aJ hx4,.z (.nat 21)] [9,22,23,24,25] [(9,V.ref 21 0)] [(21,sc [vS x4.name,vM rI x4.dims])] [(21,true)] ?_;obtain⟨x5,hx5,h⟩:=bd h;refine aU hC [oV (heq x3 x4 _ hx5)] (fr 26 5) [(30,vB (!x5))] (aZ h (fun c3 h=>?_) fun c3 h=>qk (bC hC [17,31] [(17,vI (wr (x1+1)))] (lE h)));cases h;exact aF hC [6] [(6,vB false)] zr
 cases h;exact dF (aF hC [6] [(6,vB true)] zr)
theorem w6(G:GS)(n:Nat)(s1:List Part)(s2:List Part)(eqF:FuncId)(eq:Part→Part→Option Bool)(heq: ∀(q0:Part) (q1:Part) r,eq q0 q1=some r→PQ G eqF [V.agg (kO q0),V.agg (kO q1)] (vB r)){r:Bool}(h:lB n s1 s2 eq=some r):PQ G 63 [vM aD s1,vM aD s2,V.fn eqF []] (vB r):=by
 refine pq aM Tryz.func63 rfl fun w X hC=>bJ hC [6] (qs (aU hC [oN aD s1,oN aD s2] (fr 10 5) [(14,vB (!decide ((s1.length:Int)=(s2.length:Int))))] (aZ h (fun c1 h=>?_) fun c1 h=>?_)))
 ·cases h;exact aF hC [6] [(6,vB false)] zr
 refine qk (qs (aU hC [oN aD s1] [15,16,17] [(15,vM aD s1),(16,vI (s1.length:Int)),(17,vI 0)] (qb (jQ h (fun x_=>cX [(1,vM aD s2),(2,V.fn eqF []),(15,vM aD s1),(16,vI (s1.length:Int)),(17,vI x_)]) lS ?_))));rintro again2 x1 h;refine aF hC [18] [(18,vK x1 s1)] (nG h (fun c2 h=>?_) fun c2 h=>?_)
 ·refine qk (dU ?_);obtain⟨x3,hx3,h⟩:=bd h;refine rq hC [oR aD hx3,.z (.nat 20)] [7,8,19,20,21] [(7,vI x1),(8,V.ref 20 0)] [(20,some (E.cells (kO x3)))] [(20,true)] ?_;obtain⟨x4,hx4,h⟩:=bd h;refine rq hC [oR aD hx4,.z (.nat 21)] [9,22,23,24,25] [(9,V.ref 21 0)] [(21,some (E.cells (kO x4)))] [(21,true)] ?_;obtain⟨x5,hx5,h⟩:=bd h;refine aU hC [oV (heq x3 x4 _ hx5)] (fr 26 5) [(30,vB (!x5))] (aZ h (fun c3 h=>?_) fun c3 h=>qk (bC hC [17,31] [(17,vI (wr (x1+1)))] (lE h)));cases h;exact aF hC [6] [(6,vB false)] zr
 cases h;exact dF (aF hC [6] [(6,vB true)] zr)
theorem mE{a}{b}{r}(h:fK n a b=some r):PQ G 13 [V.agg (bI a),V.agg (bI b)] (vB r):=by
 refine pq aM Tryz.func13 rfl fun w X hC=>aU hC [.z (.b (true)),.z (.b (true))] [2,3,4] [(2,V.tp (bP a)),(3,V.tp (bP b))] (aF hC [5] [(5,V.fn 56 [])] (aF hC [6] [(6,V.fn 58 [])] (vj h (fun x_=>cX [(4,vB x_)]) (fun j1 h=>?_) fun x4 h=>?_)))
 ·obtain⟨x2,hx2,h⟩:=bd h;refine aR h (fun c1 h=>aY hC ([oV (mI G n a.arrays b.arrays 56 (fun q0 q1=>gC n q0 q1) (fun q0 q1 r h=>pG G n q0 q1 h) hx2)]++rF 7 c1) [4,7,8,9,10,11,12,13,14,15,16,17,18,19,20] [(4,vB false)] (lE h)) fun c1 h=>?_;obtain⟨x3,hx3,h⟩:=bd h;exact aY hC ([oV (mI G n a.arrays b.arrays 56 (fun q0 q1=>gC n q0 q1) (fun q0 q1 r h=>pG G n q0 q1 h) hx2)]++rT 6 c1++[oV (w6 G n a.parts b.parts 58 (fun q0 q1=>gB n q0 q1) (fun q0 q1 r h=>zN G n q0 q1 h) hx3),oT c1]) [4,7,8,9,10,11,12,13,14,15,16,17,18,19,20] [(4,vB x3)] (lE h)
 obtain rfl:=so h;exact zr
theorem kI{p}{r}(h:eV n p=some r):PQ G 72 [V.agg (bI p)] (vI r):=by
 refine pq aM Tryz.func72 rfl fun w X hC=>aU hC [.z (.b (true))] [1,2] [(1,V.tp (bP p))] (aF hC [3] [(3,vI 0)] (qs (aU hC [oN aJ p.arrays] (fr 6 4) [(7,vM aJ p.arrays),(8,vI (p.arrays.length:Int)),(9,vI 0)] (qb (jQ h (fun x_=>cX [(3,vI x_.1),(7,vM aJ p.arrays),(8,vI (p.arrays.length:Int)),(9,vI x_.2)]) lS ?_)))));rintro again3 ⟨x1,x2⟩ h;refine aF hC [10] [(10,vK x2 p.arrays)] (nG h (fun c1 h=>?_) fun c1 h=>?_)
 ·refine qk (dU ?_);obtain⟨x4,hx4,h⟩:=bd h;refine rq hC [oR aJ hx4,.z (.nat 20)] [5,11,12] [(5,V.ref 20 0)] [(20,sc [vS x4.name,vM rI x4.dims])] [(20,true)] ?_;obtain⟨x5,hx5,h⟩:=bd h;exact aY hC [oV (uD G hx5)] [3,13,14,15,16] [(3,vI (wr (x1+x5)))] (bC hC [9,17] [(9,vI (wr (x2+1)))] (lE h))
 obtain rfl:=so h;exact dF (aF hC [2,18] [(2,vI x1)] zr)
theorem U6{p}{r}(h:mY n p=some r):PQ G 34 [V.agg (bI p)] (vI r):=by
 refine pq aM Tryz.func34 rfl fun w X hC=>aU hC [.z (.b (true))] [1,2] [(1,V.tp (bP p))] (qs ?_);obtain⟨x1,hx1,h⟩:=bd h;refine aU hC [oV (bK G hx1)] [3,4,5] [(5,vB (!x1))] (aZ h (fun c1 h=>?_) fun c1 h=>?_)
 ·obtain rfl:=so h;exact aF hC [2] [(2,vI 0)] zr
 refine qk ?_;obtain⟨x2,hx2,h⟩:=bd h;obtain rfl:=so h;exact aU hC [oV (kI G hx2)] [2,6,7] [(2,vI x2)] zr
theorem sQ{n_a0}{r}(h:nW n n_a0=some r):PQ G 206 [vI n_a0] (vI r):=by refine pq aM Tryz.func206 rfl fun w X hC=>?_;cases h;exact bJ hC [2] (aU hC [oQ (show(1000:Int)≠0 by decide),oQ (show(1000:Int)≠0 by decide)] (fr 2 6) [(2,vI (Int.tmod (wr ((wr ((Int.tmod n_a0 1000)+999))+1)) 1000))] zr)
theorem zL(G:GS): ∀(n:Nat) (p:Prog) (m:List Int) (e:Expr) (point:List Int) {r:Int} (h:i_Program_value n p m e point=some r),PQ G 162 [V.agg (bI p),vM rI m,V.agg (dK e),vM rI point] (vI r):=by
 intro n;induction n with
 |zero=>intro p m e point r h;rw [i_Program_value.eq_def] at h;cases h
 |succ n ih=>
  intro p m e point r h;rw [i_Program_value.eq_def] at h;dsimp only at h;refine pq aM Tryz.func162 rfl fun w X hC=>aU hC [.z (.b (true)),.z (.b (true))] [4,6,8] [(4,V.tp (bP p)),(6,V.tp (gU e))] (qs (aF hC [11,12] [(12,vI e.kind)] (qb (aF hC [13,14] [(13,vD (e.kind=1))] (aZ h (fun c1 h=>?_) fun c1 h=>?_)))))
  ·obtain rfl:=so h;exact aF hC [8,15,16] [(8,vI e.num)] zr
  refine aF hC [17,18] [(17,vD (e.kind=2))] (aZ h (fun c2 h=>?_) fun c2 h=>?_)
  ·obtain⟨x1,hx1,x2,hx2,h⟩:=dB h;obtain rfl:=so h;exact aU hC [oV (eX G hx1),oV (sQ G hx2)] [8,19,20,21,22,23] [(8,vI x2)] zr
  refine aF hC [24,25] [(24,vD (e.kind=3))] (aZ h (fun c3 h=>?_) fun c3 h=>?_)
  ·obtain⟨x3,hx3,x4,hx4,h⟩:=dB h;obtain rfl:=so h;exact aU hC [oV (dR G hx3),oR rI hx4] [8,26,27,28,29,30,31,32,33] [(8,vI x4)] zr
  refine qk (qs ?_);obtain⟨x5,hx5,x6,hx6,x7,hx7,h⟩:=lN h;obtain⟨x8,hx8,h⟩:=bd h;refine pO hC bO [.z (.row (eH x5)),oQ (fM aL hx5 (dC x5)),oV (ih p m x5 point hx6),.z (.row (eH x7)),oQ (fM aL hx7 (dC x7)),oV (ih p m x7 point hx8)] [9,10,34,35,36,37,38,39,40,41,42,43,44,45,46,47,48,49] [(9,vI x6),(10,vI x8)] (qs (aF hC [50,51] [(51,vI e.kind)] (qb (aF hC [52,53] [(52,vD (e.kind=4))] (aZ h (fun c4 h=>?_) fun c4 h=>?_)))))
  ·obtain⟨x9,hx9,h⟩:=bd h;obtain rfl:=so h;exact aU hC [oV (sQ G hx9)] [8,54,55,56,57] [(8,vI x9)] zr
  refine aF hC [58,59] [(58,vD (e.kind=5))] (aZ h (fun c5 h=>?_) fun c5 h=>?_)
  ·obtain⟨x10,hx10,h⟩:=bd h;obtain rfl:=so h;exact aU hC [oV (sQ G hx10)] [8,60,61,62,63] [(8,vI x10)] zr
  refine qk ?_;obtain⟨x11,hx11,h⟩:=bd h;obtain rfl:=so h;exact aU hC [oV (sQ G hx11)] [8,64,65,66,67] [(8,vI x11)] zr
theorem U2{p}{m}(mG:Nat){x}{r}(h:mU n p m x=some r):VQ G 104 [ar 3 mG 1 rI m] [V.agg (bI p),ms 0 mG 1 rI m,V.agg (aAG x)] (V.tup []) [ar 3 mG 1 rI r]:=by refine vq aM Tryz.func104 rfl fun w X β0 hC hg=>aU hC [.z (.b (true)),.z (.b (true))] [3,5] [(3,V.tp (bP p)),(5,V.tp (K9 x))] ?_;obtain⟨x1,hx1,h⟩:=bd h;refine rq hC [oV (rB G hx1),.z (.nat 20)] (fr 6 4) [(6,V.ref 20 0)] [(20,some (E.cells (cV x1)))] [(20,true)] ?_;obtain⟨x2,hx2,x3,hx3,x4,hx4,h⟩:=lN h;obtain⟨x5,hx5,h⟩:=bd h;obtain rfl:=so h;exact pV hC bO [oV (dR G hx2),.z (.b (true)),oV (zL G n p m x1.value x.point hx3),oQ (mS rI hx4),oX rI hx4,.z (.rows (x5.map rI)),oQ (str rI hx5)] [1,10,11,12,13,14,15,16,17,18,19,20,21,22,23,24] [(0,some (ar 3 mG 1 rI x5))] [] eW
theorem iF{p}{r}(h:dQ n p=some r):VQ G 19 [] [V.agg (bI p)] (ms 0 1 3 bT r) [ar 107 1 3 bT r]:=by
 refine vq aM Tryz.func19 rfl fun w X β0 hC hg=>aU hC [.z (.b (true))] [1,2] [(1,V.tp (bP p))] ?_;obtain⟨x1,hx1,h⟩:=bd h;refine rq hC [oC [] [20] (kN G hx1)] (fr 3 7) [(3,ms 20 1 3 bT x1.1),(4,vB x1.2)] [(20,some (ar 107 1 3 bT x1.1))] [(20,true)] (qs (aF hC [10,11] [(11,vB (!x1.2))] (aZ h (fun c1 h=>?_) fun c1 h=>?_)))
 ·cases h;exact aF hC [2] [(2,aP)] (qw (lk hC [.grow 2 0 107] [2] [(2,ms 0 1 3 bT [])] [(0,some (ar 107 1 3 bT []))] [(0,true)]) zw)
 cases h;exact qk (aF hC [2,12] [(2,ms 20 1 3 bT x1.1)] (xR hC 2 20 (ms 0 1 3 bT x1.1) (ar 107 1 3 bT x1.1)))
theorem zP(G:GS)(n:Nat)(n_a0:Int){r:Bool}(h:gD n n_a0=some r):PQ G 160 [vI n_a0] (vB r):=by refine pq aM Tryz.func160 rfl fun w X hC=>bJ hC [2] ?_;obtain⟨x1,hx1,h⟩:=bd h;cases h;exact aU hC [oV (bH G hx1)] (fr 2 4) [(2,vB (!x1))] zr
theorem H8{p}{m}{r}(h:lK n p m=some r):PQ G 101 [V.agg (bI p),vM rI m] (vB r):=by
 refine pq aM Tryz.func101 rfl fun w X hC=>aU hC [.z (.b (true))] [2,4] [(2,V.tp (bP p))] (vj h (fun x_=>cX [(4,vB x_)]) (fun j1 h=>?_) fun x5 h=>?_)
 ·obtain⟨x2,hx2,h⟩:=bd h;refine aR h (fun c1 h=>aY hC ([oV (bK G hx2)]++rF 6 c1++sF 4) (fr 4 15) [(4,vB false)] (lE h)) fun c1 h=>?_;obtain⟨x3,hx3,h⟩:=bd h;refine aR h (fun c2 h=>aY hC ([oV (bK G hx2),oT c1,oT c1,oN rI m,oT c1,oT c1,oV (kI G hx3),oT c1,oT c1]++rF 4 c2) (fr 4 15) [(4,vB false)] (lE h)) fun c2 h=>?_;obtain⟨x4,hx4,h⟩:=bd h;exact aY hC [oV (bK G hx2),oT c1,oT c1,oN rI m,oT c1,oT c1,oV (kI G hx3),oT c1,oT c1,oT c2,oT c2,oV (dY G n m 160 (fun q0=>gD n q0) (fun q0 r h=>zP G n q0 h) hx4),oT c2,oT c2] (fr 4 15) [(4,vB (!x4))] (lE h)
 obtain rfl:=so h;exact zr
theorem uB{p}{m}{r}(h:fV n p m=some r):VQ G 36 [] [V.agg (bI p),vM rI m] (V.tup [ms 0 1 1 rI r.1,vB r.2]) [ar 3 1 1 rI r.1]:=by
 refine vq aM Tryz.func36 rfl fun w X β0 hC hg=>aU hC [.z (.b (true))] [2,4,5] [(2,V.tp (bP p))] (qs ?_);obtain⟨x1,hx1,h⟩:=bd h;refine aU hC [oV (H8 G hx1)] (fr 9 4) [(12,vB (!x1))] (aZ h (fun c1 h=>?_) fun c1 h=>?_)
 ·cases h;exact aF hC [4,5] [(4,aP),(5,vB false)] (qw (lk hC [.grow 4 0 3] [4] [(4,ms 0 1 1 rI [])] [(0,some (ar 3 1 1 rI []))] [(0,true)]) zw)
 refine qk ?_;obtain⟨x2,hx2,h⟩:=bd h;refine rq hC [oC [] [20] (G.clone m hx2)] [6,13,14] [(6,ms 20 1 1 rI x2)] [(20,some (ar 3 1 1 rI x2))] [(20,true)] (qs ?_);obtain⟨x3,hx3,h⟩:=bd h;refine rq hC [oC [] [21] (iF G hx3),oN bT x3] (fr 15 4) [(16,ms 21 1 3 bT x3),(17,vI (x3.length:Int)),(18,vI 0)] [(21,some (ar 107 1 3 bT x3))] [(21,true)] (qb (l7 h (fun x_ g_=>cM [(2,V.tp (bP p)),(6,ms 20 g_ 1 rI x_.1),(16,ms 21 1 3 bT x3),(17,vI (x3.length:Int)),(18,vI x_.2)] [(20,ar 3 g_ 1 rI x_.1),(21,ar 107 1 3 bT x3)] [20,21]) 1 (lS) ?_));rintro again7 ⟨x4,x5⟩ g6 h;refine aF hC [19] [(19,vK x5 x3)] (nG h (fun c2 h=>?_) fun c2 h=>?_)
 ·refine qk (dU ?_);obtain⟨x8,hx8,h⟩:=bd h;refine rq hC [oQ (mS bT hx8),oX bT hx8,.z (.nat 22)] [8,20,21] [(8,V.ref 22 0)] [(22,some (E.cells (aAG x8)))] [(22,true)] ?_;obtain⟨x9,hx9,x10,hx10,h⟩:=dB h;exact rk hC [oC [20] [] (U2 G g6 hx9),.z (.len 6 (x9.map rI).length),oQ (aKN rI hx10)] [6,22,23,24,25] [(6,ms 20 g6 1 rI x9)] [(20,some (ar 3 g6 1 rI x9))] [(20,true)] (bC hC [18,26] [(18,vI (wr (x5+1)))] ⟨(x9,wr (x5+1)),g6,h,lS⟩)
 cases h;exact dF (aF hC [4,5,27] [(4,ms 20 g6 1 rI x4),(5,vB true)] (xR hC 4 20 (ms 0 1 1 rI x4) (ar 3 1 1 rI x4)))
theorem S4{a}{b}{r}(h:pW n a b=some r):PQ G 20 [vM rI a,vM rI b] (vB r):=by
 refine pq aM Tryz.func20 rfl fun w X hC=>bJ hC [4] (qs (aU hC [oN rI a,oN rI b] (fr 6 5) [(10,vB (!decide ((a.length:Int)=(b.length:Int))))] (aZ h (fun c1 h=>?_) fun c1 h=>?_)))
 ·cases h;exact aF hC [4] [(4,vB false)] zr
 refine qk (qs (aF hC [5] [(5,vI 0)] (qb (jQ h (fun x_=>cX [(0,vM rI a),(1,vM rI b),(5,vI x_)]) lS ?_))));rintro again2 x1 h;refine qs (aU hC [oN rI a] (fr 11 4) [(14,vK x1 a)] (aZ h (fun c2 h=>?_) fun c2 h=>?_))
 ·refine qk (dU (qs ?_));obtain⟨x3,hx3,x4,hx4,h⟩:=dB h;refine pO hC bO [oR rI hx3,oR rI hx4] (fr 17 9) [(25,vB (!decide (x3=x4)))] (aZ h (fun c3 h=>?_) fun c3 h=>qk (bC hC [5,15,16] [(5,vI (wr (x1+1)))] (lE h)));cases h;exact aF hC [4] [(4,vB false)] zr
 cases h;exact dF (aF hC [4] [(4,vB true)] zr)
theorem G1{p}{q}{seed}{r}(h:uI n p q seed=some r):PQ G 15 [V.agg (bI p),V.agg (bI q),vI seed] (vB r):=by
 refine pq aM Tryz.func15 rfl fun w X hC=>aU hC [.z (.b (true)),.z (.b (true))] [3,4,6] [(3,V.tp (bP p)),(4,V.tp (bP q))] ?_;obtain⟨x1,hx1,x2,hx2,h⟩:=dB h;refine rq hC [oV (U6 G hx1),.z (.nat 20),oA (aKP rI hx2),oQ (aBd hx2).1] [7,13,14,15] [(7,ms 20 1 1 rI x2)] [(20,some (ar 3 1 1 rI x2))] [(20,true)] (qs (aF hC [8] [(8,vI 0)] (qb (l7 h (fun x_ g_=>cM [(2,vI seed),(3,V.tp (bP p)),(4,V.tp (bP q)),(7,ms 20 g_ 1 rI x_.1),(8,vI x_.2)] [(20,ar 3 g_ 1 rI x_.1)] [20]) 1 (lS) ?_))));rintro again6 ⟨x3,x4⟩ g5 h;refine qs (aU hC [oN rI x3] (fr 16 4) [(19,vK x4 x3)] (aZ h (fun c1 h=>?_) fun c1 h=>?_))
 ·refine qk (dU ?_);obtain⟨x7,hx7,x8,hx8,h⟩:=dB h;exact rk hC [oQ (show(1000:Int)≠0 by decide),oQ (mS rI hx7),oX rI hx7,.z (.rows (x8.map rI)),.z (.len 7 (x8.map rI).length),oQ (str rI hx8),oQ (qL rI hx8)] [7,22,23,24,25,26,27,28,29,30,31] [(7,ms 20 g5 1 rI x8)] [(20,some (ar 3 g5 1 rI x8))] [] (bC hC [8,20,21] [(8,vI (wr (x4+1)))] ⟨(x8,wr (x4+1)),g5,h,lS⟩)
 refine dF ?_;obtain⟨x9,hx9,h⟩:=bd h;refine rq hC [.z (.at 6),.z (.fz 20 [7,34] []),oC [] [21] (uB G hx9)] [7,9,10,32,33,34,35,36,37] [(7,vM rI x3),(9,ms 21 1 1 rI x9.1),(10,vB x9.2)] [(20,none),(21,some (ar 3 1 1 rI x9.1))] [(21,true)] ?_;obtain⟨x10,hx10,h⟩:=bd h;refine rq hC [oC [] [22] (uB G hx10)] [11,12,38,39,40,41,42,43] [(11,ms 22 1 1 rI x10.1),(12,vB x10.2)] [(22,some (ar 3 1 1 rI x10.1))] [(22,true)] (vj h (fun x_=>cM [(6,vB x_)] [(21,ar 3 1 1 rI x9.1),(22,ar 3 1 1 rI x10.1)] [20,21,22]) (fun j11 h=>?_) fun x13 h=>?_)
 ·refine aR h (fun c2 h=>aY hC ([oF c2,oF c2]++sF 4) [6,44,45,46,47,48,49,50,51,52] [(6,vB false)] (lE h)) fun c2 h=>?_;refine aR h (fun c3 h=>aY hC ([oT c2,oT c2]++rF 4 c3) [6,44,45,46,47,48,49,50,51,52] [(6,vB false)] (lE h)) fun c3 h=>?_;obtain⟨x12,hx12,h⟩:=bd h;exact aY hC ([oT c2,oT c2]++rT 3 c3++[.z (.b (true)),oV (S4 G hx12),oT c3]) [6,44,45,46,47,48,49,50,51,52] [(6,vB x12)] (lE h)
 obtain rfl:=so h;exact zr
theorem sP{code}{r}(h:eY n code=some r):PQ G 85 [vM rY code] (V.tup [V.agg (bI r.1),vI r.2.1,vI r.2.2]):=by refine pq aM Tryz.func85 rfl fun w X hC=>rq hC [.z (.nat 20)] [2,3,4] [(2,V.ref 20 0)] [(20,sc [aP,aP])] [(20,true)] ?_;obtain⟨x1,hx1,x2,hx2,h⟩:=dB h;cases h;exact rq hC [oC [] [21] (aC9 G hx1),oC [21] [] (aEC G hx2),.z (.nat 22)] (fr 5 12) [(5,V.ref 22 0),(6,vI x2.2.1),(8,vI x2.2.2.2.1)] [(21,sR x2.2.2.2.2),(22,some (E.cells (bI x2.1)))] [(21,true),(21,true),(22,true)] (yC hC [3,4,17,18,19] [(3,vI x2.2.1),(4,vI x2.2.2.2.1)] [(20,some (E.cells (bI x2.1)))] [] zr)
theorem zI{code}{r}(h:jE n code=some r):PQ G 27 [vM rY code] (V.tup [V.agg (bI r.1),vI r.2.1,vI r.2.2]):=by refine pq aM Tryz.func27 rfl fun w X hC=>rq hC [.z (.nat 20)] [2,3,4] [(2,V.ref 20 0)] [(20,sc [aP,aP])] [(20,true)] ?_;obtain⟨x1,hx1,h⟩:=bd h;cases h;exact rq hC [oV (sP G hx1)] (fr 3 7) [(3,vI x1.2.1),(4,vI x1.2.2)] [(20,some (E.cells (bI x1.1)))] [] zr
open Go.RowKit Go.Lib in
set_option maxHeartbeats 4000000 in
set_option maxRecDepth 100000 in
theorem W3(b n c i vb m vc:Nat)(cs vs:List Value)(w:World)(hi:i<n)(hm:0<m)(hroom:n+m≤c)(hc63:c≤9223372036854775807)(hvb:vb≠b)
  (hcl:cs.length=n*2) (hvl:vs.length=m*2)
  (hcs: ∀j v,cs[j]? =some v→w.cell? ⟨b,j,none⟩=some v) (hsp: ∀j,j<(n+m)*2→(w.cell? ⟨b,j,none⟩).isSome=true) (hfz: ∀j,w.frozen? ⟨b,j,none⟩=false)
  (hvs: ∀j v,vs[j]? =some v→w.cell? ⟨vb,j,none⟩=some v) (h1c: ∀v∈cs,v.oneCell'=true) (h1v: ∀v∈vs,v.oneCell'=true)
  (tA tB:TypeId) (kA kB:Nat) (hsa:w.shape? vb=some (tA,kA)) (hsb:w.shape? b=some (tB,kB)) (hkB:kB≠0) (hfa: ∀j,w.frozen? ⟨vb,j,none⟩=false):
  Calls Tryz.prog 88 #[.slice (some ⟨b,0,none⟩) n c,.int .i64 i,.slice (some ⟨vb,0,none⟩) m vc] w fun e w'=>
   e= .returned (.slice (some ⟨b,0,none⟩) (n+m) c)∧w'=(w.drew.setCells b ((i+m)*2) (cs.drop (i*2))).setCells b (i*2) vs:=by
 have hz1: ¬((m:Int)=0):=by omega
 have hz2: ¬((i:Int)=(n:Int)):=by omega
 have hw1:IntKind.i64.wrap ((i:Int)+(m:Int))=(i:Int)+(m:Int):=by rw [IntKind.wrap_i64];omega
 have hb1:(0:Int)≤(i:Int)+(m:Int):=by omega
 have hin:i≤n:=by omega
 have htn:((i:Int)+(m:Int)).toNat=i+m:=by omega
 have hb2: ¬(c=i+m):=by omega
 have hb3:(i:Int)≤(n:Int)+(m:Int):=by omega
 have hb4: ¬(c=i):=by omega
 have hov: ∀lb cb,(callFunc 152 #[.slice (some ⟨vb,0,none⟩) m vc,.slice (some ⟨b,(i+m)*2,none⟩) lb cb]).run Tryz.prog w= .ok (.value (.bool false)) w:=fun lb cb=>by
  rw [run_callFunc_extern Tryz.func152 (by kernel_rfl) (by kernel_rfl) (by kernel_rfl) (e:=Extern.SlicesOverlaps.overlaps #[24,24] #[4]) (by kernel_rfl),
   Lib.run_overlaps_apart w 24 4 62 Tryz.underlying24 2 Tryz.sizeOf62 ⟨vb,0,none⟩ ⟨b,(i+m)*2,none⟩ m vc lb cb hvb tA tB kA kB hsa hsb hkB (hfa 0) (hfa kA)]
  rfl
 have hdl:(cs.drop (i*2)).length=(n-i)*2:=by rw [vAQ,hcl];omega
 have hsz:(Tryz.prog.info? 62).map (·.size)=some 2:=by kernel_rfl
 have hcp1: ∀ty dc sc,(Builtin.copy_ #[24,24] ty #[.slice (some ⟨b,(i+m)*2,none⟩) (n+m-(i+m)) dc,.slice (some ⟨b,i*2,none⟩) (n+m-i) sc]).run Tryz.prog w.drew= .ok (goInt ((n-i:Nat):Int)) (w.drew.setCells b ((i+m)*2) (cs.drop (i*2))):=fun ty dc sc=>
  uR w.drew 24 24 ty 62 2 b ((i+m)*2) (n+m-(i+m)) dc ⟨b,i*2,none⟩ (n+m-i) sc (n-i) (cs.drop (i*2)) Tryz.underlying24 hsz (by simp only [Nat.min_def];split<;>omega) hdl
   (fun j v hj=>by rw [Addr.add_lit];exact hcs (i*2+j) v (by rwa [vAy] at hj))
   (fun j hj=>hsp _ (by omega)) (fun j hj=>hfz _) fun v hv=>h1c v (vAx hv)
 obtain⟨W1,hW1⟩: ∃W1,W1=w.drew.setCells b ((i+m)*2) (cs.drop (i*2)):=⟨_,rfl⟩
 have hsp1: ∀k,k<(n+m)*2→(W1.cell? ⟨b,k,none⟩).isSome=true:=fun k hk=>by
  rw [hW1];exact qN b (cs.drop (i*2)) ((i+m)*2) w.drew (fun j hj=>hsp _ (by rw [hdl] at hj;omega)) k (hsp k hk)
 have hcp2: ∀(W:World),(∀x,W.cell? x=W1.cell? x)→(∀x,W.frozen? x=W1.frozen? x)→ ∀ty dc,(Builtin.copy_ #[24,24] ty #[.slice (some ⟨b,i*2,none⟩) (n+m-i) dc,.slice (some ⟨vb,0,none⟩) m vc]).run Tryz.prog W= .ok (goInt m) (W.setCells b (i*2) vs):=fun W hWc hWf ty dc=>
  uR W 24 24 ty 62 2 b (i*2) (n+m-i) dc ⟨vb,0,none⟩ m vc m vs Tryz.underlying24 hsz (by simp only [Nat.min_def];split<;>omega) hvl
   (fun j v hj=>by
    rw [Addr.add_lit,lQ,hWc,hW1,World.cell?_setCells_out b _ _ _ _ fun h _=>absurd h hvb];exact hvs j v hj)
   (fun j hj=>by rw [hWc];exact hsp1 _ (by omega)) (fun j hj=>by rw [hWf,hW1,World.frozen?_setCells];exact hfz _) h1v
 rw [←hW1] at hcp1
 go_enter Tryz.func88,Tryz.ntmps88
 go_wp2_with (simp only [hov])
 go_region_law (refine tE rfl _ _ 24 24 rfl _ _ (by simp [Act.eval,Act.put]) (by simp [Act.eval,Act.put]) (hcp1 _ _ _) ?_)
 go_wp2_with (at_builtin;refine kP _ rfl _ _ 24 24 rfl _ _ rfl rfl (hcp2 _ (fun _=>rfl) (fun _=>rfl) _ _) ?_)
 go_ret
 first|exact⟨rfl,rfl⟩|exact⟨rfl,by rw [hW1]⟩
open Go.RowKit Go.Lib in
set_option maxHeartbeats 4000000 in
set_option maxRecDepth 100000 in
theorem W5(b n c i vb m vc:Nat)(cs vs:List Value)(w:World)(hi:i<n)(hm:0<m)(hnc:n≤c)(hroom:c<n+m)(i0:TypeInfo)(z:Value)(hi0:Tryz.prog.info? 62=some i0)(hz0:i0.zero=some z)(hzs:i0.size=2)(hzc:z.cells.size=2)(hle:n+m≤1000000000)(hbig:(n+m)*i0.bytes≤140737488355328)
  (hcl:cs.length=n*2) (hvl:vs.length=m*2)
  (hcs: ∀j v,cs[j]? =some v→w.cell? ⟨b,j,none⟩=some v)
  (hvs: ∀j v,vs[j]? =some v→w.cell? ⟨vb,j,none⟩=some v) (h1c: ∀v∈cs,v.oneCell'=true) (h1v: ∀v∈vs,v.oneCell'=true):
  Calls Tryz.prog 88 #[.slice (some ⟨b,0,none⟩) n c,.int .i64 i,.slice (some ⟨vb,0,none⟩) m vc] w fun e w'=>
   e= .returned (.slice (some ⟨w.heap.size,0,none⟩) (n+m) (grownCap w (n+m) c 62))∧
   w'=(((w.alloc (.cells ((cs.take (i*2)).toArray++Builtin.zeroCells z.cells (n+m-i)++Builtin.zeroCells z.cells (grownCap w (n+m) c 62-(n+m))) 62)).drew.setCells w.heap.size (i*2) vs).drew).setCells w.heap.size ((i+m)*2) (cs.drop (i*2)):=by
 have hz1: ¬((m:Int)=0):=by omega
 have hz2: ¬((i:Int)=(n:Int)):=by omega
 have hz3:(c:Int)<(n:Int)+(m:Int):=by omega
 have hsz:(Tryz.prog.info? 62).map (·.size)=some 2:=by rw [hi0];simp [hzs]
 have hbw:b<w.heap.size:=block_lt_of_cell (hcs 0 _ (eD (by omega)));have hvw:vb<w.heap.size:=block_lt_of_cell (hvs 0 _ (eD (by omega)));have hkk:(n:Int)+(m:Int)-(i:Int)=((n+m-i:Nat):Int):=by omega
 have hik:i+(n+m-i)=n+m:=by omega
 have hold:(Builtin.firstCells i0.size i (.slice (some ⟨b,0,none⟩) i c)).run Tryz.prog w.drew= .ok (cs.take (i*2)).toArray w.drew:=by
  rw [hzs];exact run_firstCells_some w.drew 2 i ⟨b,0,none⟩ i c (cs.take (i*2)) (by rw [pJ];omega) (fun j v hj=>by
   rw [Addr.add_lit,lQ];rw [z7] at hj;split at hj
   ·exact hcs j v hj
   cases hj)
 have hrz: ∀ty,(Builtin.append_ #[24,3] ty #[.slice (some ⟨b,0,none⟩) i c,.int .i64 ((n:Int)+(m:Int)-(i:Int))]).run Tryz.prog w=
   .ok (.slice (some ⟨w.heap.size,0,none⟩) (n+m) (grownCap w (n+m) c 62)) (w.drew.alloc (.cells ((cs.take (i*2)).toArray++Builtin.zeroCells z.cells (n+m-i)++Builtin.zeroCells z.cells (grownCap w (n+m) c 62-(n+m))) 62)):=fun ty=>by
  have h:=Lib.run_append_grow_zeros w 24 3 ty 62 i0 z .i64 .i64 Tryz.underlying24 Tryz.underlying3 hi0 hz0 (some ⟨b,0,none⟩) i c (cs.take (i*2)) hold (n+m-i) (by omega) (by omega) (by omega) (by omega) (by
   have:=kK i0.bytes (show n+m-i≤n+m by omega);omega) (by rw [hik];exact growslice_fits hroom hbig)
  rw [hik] at h;rw [hkk];exact h
 obtain⟨G,hG⟩: ∃G,G=grownCap w (n+m) c 62:=⟨_,rfl⟩
 obtain⟨ROW,hROW⟩: ∃ROW:Array Value,ROW=(cs.take (i*2)).toArray++Builtin.zeroCells z.cells (n+m-i)++Builtin.zeroCells z.cells (G-(n+m)):=⟨_,rfl⟩
 rw [←hG] at hrz⊢;rw [←hROW] at hrz⊢;have hRl:(n+m)*2≤ROW.size:=by
  rw [hROW];simp [Builtin.zeroCells,hzc];omega
 obtain⟨W1,hW1⟩: ∃W1,W1=w.drew.alloc (.cells ROW 62):=⟨_,rfl⟩
 rw [←hW1] at hrz;have hN: ∀j,j<(n+m)*2→(W1.cell? ⟨w.heap.size,j,none⟩).isSome=true:=fun j hj=>by
  rw [hW1,World.cell?_alloc_at (w:=w.drew) ROW _ w.heap.size j rfl,vAH (by omega)];rfl
 have hNf: ∀j,W1.frozen? ⟨w.heap.size,j,none⟩=false:=fun j=>by rw [hW1];exact World.frozen?_alloc_at (w:=w.drew) ROW _ w.heap.size j rfl
 have hOb: ∀j v,w.cell? ⟨b,j,none⟩=some v→W1.cell? ⟨b,j,none⟩=some v:=fun j v h=>by rw [hW1,World.cell?_alloc_past (w:=w.drew) _ b j hbw];exact h
 have hOv: ∀j v,w.cell? ⟨vb,j,none⟩=some v→W1.cell? ⟨vb,j,none⟩=some v:=fun j v h=>by rw [hW1,World.cell?_alloc_past (w:=w.drew) _ vb j hvw];exact h
 have hcpA: ∀(W:World),(∀x,W.cell? x=W1.cell? x)→(∀x,W.frozen? x=W1.frozen? x)→ ∀ty dc,(Builtin.copy_ #[24,24] ty #[.slice (some ⟨w.heap.size,i*2,none⟩) (n+m-i) dc,.slice (some ⟨vb,0,none⟩) m vc]).run Tryz.prog W= .ok (goInt m) (W.setCells w.heap.size (i*2) vs):=fun W hWc hWf ty dc=>
  uR W 24 24 ty 62 2 w.heap.size (i*2) (n+m-i) dc ⟨vb,0,none⟩ m vc m vs Tryz.underlying24 hsz (by simp only [Nat.min_def];split<;>omega) hvl
   (fun j v hj=>by rw [Addr.add_lit,lQ,hWc];exact hOv _ v (hvs j v hj))
   (fun j hj=>by rw [hWc];exact hN _ (by omega)) (fun j hj=>by rw [hWf];exact hNf _) h1v
 have hGn:n+m≤G:=by rw [hG];exact grownCap_ge w _ _ _
 have hG63:G≤9223372036854775807:=by
  have:=grownCap_le_maxLen w (n+m) c 62 (by unfold maxLen;omega);rw [←hG] at this;unfold maxLen at this;omega
 have hGi: ¬(G=i):=by omega
 have hGim: ¬(G=i+m):=by omega
 have hci: ¬(c=i):=by omega
 have hbN:b≠w.heap.size:=by omega
 have hdl:(cs.drop (i*2)).length=(n-i)*2:=by rw [vAQ,hcl];omega
 have hcpB: ∀(W:World),(∀x,W.cell? x=(W1.setCells w.heap.size (i*2) vs).cell? x)→(∀x,W.frozen? x=(W1.setCells w.heap.size (i*2) vs).frozen? x)→ ∀ty dc sc,(Builtin.copy_ #[24,24] ty #[.slice (some ⟨w.heap.size,(i+m)*2,none⟩) (n+m-(i+m)) dc,.slice (some ⟨b,i*2,none⟩) (n-i) sc]).run Tryz.prog W= .ok (goInt ((n-i:Nat):Int)) (W.setCells w.heap.size ((i+m)*2) (cs.drop (i*2))):=fun W hWc hWf ty dc sc=>
  uR W 24 24 ty 62 2 w.heap.size ((i+m)*2) (n+m-(i+m)) dc ⟨b,i*2,none⟩ (n-i) sc (n-i) (cs.drop (i*2)) Tryz.underlying24 hsz (by simp only [Nat.min_def];split<;>omega) hdl
   (fun j v hj=>by
    rw [Addr.add_lit,hWc,World.cell?_setCells_out _ _ _ _ _ fun h _=>absurd h hbN];exact hOb _ v (hcs (i*2+j) v (by rwa [vAy] at hj)))
   (fun j hj=>by rw [hWc];exact qN w.heap.size vs (i*2) W1 (fun t ht=>hN _ (by rw [hvl] at ht;omega)) _ (hN _ (by rw [hdl] at hj;omega)))
   (fun j hj=>by rw [hWf,World.frozen?_setCells];exact hNf _) fun v hv=>h1c v (vAx hv)
 subst hW1;have hE1: ∀x,((w.alloc (.cells ROW 62)).drew).cell? x=(w.drew.alloc (.cells ROW 62)).cell? x:=fun x=>rfl;have hE2: ∀x,((w.alloc (.cells ROW 62)).drew).frozen? x=(w.drew.alloc (.cells ROW 62)).frozen? x:=fun x=>rfl;have hF1: ∀x,(((w.alloc (.cells ROW 62)).drew.setCells w.heap.size (i*2) vs).drew).cell? x=((w.drew.alloc (.cells ROW 62)).setCells w.heap.size (i*2) vs).cell? x:=fun x=>rfl;have hF2: ∀x,(((w.alloc (.cells ROW 62)).drew.setCells w.heap.size (i*2) vs).drew).frozen? x=((w.drew.alloc (.cells ROW 62)).setCells w.heap.size (i*2) vs).frozen? x:=fun x=>rfl;have hw1:IntKind.i64.wrap ((i:Int)+(m:Int))=(i:Int)+(m:Int):=by rw [IntKind.wrap_i64];omega
 have hb1:(0:Int)≤(i:Int)+(m:Int):=by omega
 have hin:i≤n:=by omega
 have htn:((i:Int)+(m:Int)).toNat=i+m:=by omega
 have hb3:(i:Int)≤(n:Int):=by omega
 clear hkk hik hold hROW hG hRl
 go_enter Tryz.func88,Tryz.ntmps88
 go_wp2_with (first
  |(at_builtin;refine Lib.wpList_append_run _ rfl _ _ _ _ rfl _ _ rfl rfl _ _ (hrz _) ?_)
  |(at_builtin;refine kP _ rfl _ _ 24 24 rfl _ _ rfl rfl (hcpA _ hE1 hE2 _ _) ?_)
  |(at_builtin;refine kP _ rfl _ _ 24 24 rfl _ _ rfl rfl (hcpB _ (fun _=>rfl) (fun _=>rfl) _ _ _) ?_))
 go_region_law (refine tE rfl _ _ 24 24 rfl (.slice (some ⟨w.heap.size,(i+m)*2,none⟩) (n+m-(i+m)) (G-(i+m))) (.slice (some ⟨b,i*2,none⟩) (n-i) (c-i)) (by simp [Act.eval,Act.put]) (by simp [Act.eval,Act.put]) (hcpB _ hF1 hF2 3 (G-(i+m)) (c-i)) ?_)
 go_wp2
 go_ret
 exact⟨rfl,rfl⟩
open Go.RowKit Go.Lib in
set_option maxHeartbeats 4000000 in
set_option maxRecDepth 100000 in
theorem W4(base vbase:Option Addr)(n c i vc:Nat)(w:World)(hi:i≤n)(hn:n≤c)(hc:c≤9223372036854775807):Calls Tryz.prog 88 #[.slice base n c,.int .i64 i,.slice vbase 0 vc] w fun e w'=>e= .returned (.slice base n c)∧w'=w:=by
 have hin:(i:Int)≤(n:Int):=by omega
 go_enter Tryz.func88,Tryz.ntmps88
 cases base with
 |none=>
  go_wp2
  go_ret
  exact⟨rfl,rfl⟩
 |some a=>
  obtain⟨ab,ao,asp⟩:=a;by_cases hci:c=i
  ·go_wp2
   go_ret
   exact⟨rfl,rfl⟩
  go_wp2
  go_ret
  exact⟨rfl,rfl⟩
open Go.RowKit Go.Lib in
set_option maxHeartbeats 4000000 in
set_option maxRecDepth 100000 in
theorem W2(base vbase:Option Addr)(n c m vc:Nat)(w:World)(v':Value)(w':World)(hm:0<m)(hn:n≤c)(hc:c≤9223372036854775807)(hrun:(Builtin.append_ #[24,24] 24 #[.slice base n c,.slice vbase m vc]).run Tryz.prog w= .ok v' w'):
  Calls Tryz.prog 88 #[.slice base n c,.int .i64 n,.slice vbase m vc] w fun e w1=>e= .returned v'∧w1=w':=by
 have hz1: ¬((m:Int)=0):=by omega
 go_enter Tryz.func88,Tryz.ntmps88
 cases base with
 |none=>
  go_wp2_with (at_builtin;refine Lib.wpList_append_run _ rfl _ _ _ _ rfl _ _ rfl rfl _ _ hrun ?_)
  go_ret
  exact⟨rfl,rfl⟩
 |some a=>
  obtain⟨ab,ao,asp⟩:=a;by_cases hci:c=n
  ·go_wp2_with (at_builtin;refine Lib.wpList_append_run _ rfl _ _ _ _ rfl _ _ rfl rfl _ _ hrun ?_)
   go_ret
   exact⟨rfl,rfl⟩
  go_wp2_with (at_builtin;refine Lib.wpList_append_run _ rfl _ _ _ _ rfl _ _ rfl rfl _ _ hrun ?_)
  go_ret
  exact⟨rfl,rfl⟩
theorem aCF{i0:TypeInfo}{z:Value}(hi0:Tryz.prog.info? 62=some i0)(hz0:i0.zero=some z)(hzs:i0.size=2)(hzc:z.cells.size=2):InsRaw Tryz.prog 88 24 62 2 i0 z where
 nothing:=W4
 tail:=W2
 room:=fun b n c i vb m vc cs vs w hi hm hroom hc63 hvb hcl hvl hcs hsp hfz hvs h1c h1v tA tB kA kB hsa hsb hkB hfa=>W3 b n c i vb m vc cs vs w hi hm hroom hc63 hvb hcl hvl hcs hsp hfz hvs h1c h1v tA tB kA kB hsa hsb hkB hfa
 grow:=fun b n c i vb m vc cs vs w hi hm hnc hroom hle hbig hcl hvl hcs hvs h1c h1v=>W5 b n c i vb m vc cs vs w hi hm hnc hroom i0 z hi0 hz0 hzs hzc hle hbig hcl hvl hcs hvs h1c h1v
theorem H6(G:GS)(n:Nat)(s:List Part)(i:Int)(v:List Part)(gs gv:Nat){r:List Part}(h:iZ n s i v=some r):
  VQ G 88 [ar 62 gs 2 aD s,ar 62 gv 2 aD v] [ms 0 gs 2 aD s,vI i,ms 1 gv 2 aD v] (ms 0 (gs+1) 2 aD r) [ar 62 (gs+1) 2 aD r,ar 62 gv 2 aD v]:=by
 unfold iZ at h;refine aAY (decide ((0:Int)≤i)) (fun c1=>?_) fun c1=>?_
 ·have h:=bf c1 h;exact nof h
 have h:=bt c1 h;refine aAY (decide (i≤(s.length:Int))) (fun c2=>?_) fun c2=>?_
 ·have h:=bf c2 h;exact nof h
 have h:=bt c2 h;have g0:=of_decide_eq_true c1;have g1:=of_decide_eq_true c2;obtain⟨k,rfl⟩: ∃k:Nat,i=(k:Int):=⟨i.toNat,by omega⟩
 simp only [Int.toNat_natCast] at h;have hif:(Tryz.prog.info? 62).map (fun i=>(i.zero.map fun z=>z.cells.size,i.size,Nat.ble i.bytes 140000))=some (some 2,2,true):=by kernel_rfl
 cases hq:Tryz.prog.info? 62 with
 |none=>rw [hq] at hif;cases hif
 |some i0=>
  rw [hq] at hif;simp only [Option.map_some,Option.some.injEq,Prod.mk.injEq] at hif;obtain⟨h1,h2,h3⟩:=hif;cases hz:i0.zero with
  |none=>rw [hz] at h1;cases h1
  |some z=>
   rw [hz] at h1;simp only [Option.map_some,Option.some.injEq] at h1;refine aJx ⟨_,Tryz.func88,by kernel_rfl,by kernel_rfl⟩ (aCF hq hz h2 h1) Tryz.underlying24 hq hz h1 h2 Tryz.underlying62 (by decide) (oW h3) aD (fun _=>rfl) s v r k gs gv (by omega) h
theorem rA{list}{r}(h:e9 n list=some r):VQ G 202 [ar 67 1 2 aB list] [ms 0 1 2 aB list] (ms 1 1 2 aB r) [ar 67 1 2 aB list,ar 67 1 2 aB r]:=by
 refine vq aM Tryz.func202 rfl fun w X β0 hC hg=>bJ hC [2] (aF hC [3] [(3,aP)] (qs (aU hC [oN aB list] [6,7,8] [(6,ms 0 1 2 aB list),(7,vI (list.length:Int)),(8,vI 0)] (qb (qw (lk hC [.grow 3 20 67] [3] [(3,ms 20 1 2 aB [])] [(20,some (ar 67 1 2 aB []))] [(20,true)]) ?_)))));refine l7 h (fun x_ g_=>cM [(3,ms 20 g_ 2 aB x_.1),(6,ms 0 1 2 aB list),(7,vI (list.length:Int)),(8,vI x_.2)] [(0,ar 67 1 2 aB list),(20,ar 67 g_ 2 aB x_.1)] [0,20]) 1 (lS) ?_;rintro again4 ⟨x1,x2⟩ g3 h;refine aF hC [9] [(9,vK x2 list)] (nG h (fun c1 h=>?_) fun c1 h=>?_)
 ·refine qk (dU ?_);obtain⟨x5,hx5,h⟩:=bd h;refine rq hC [oQ (mS aB hx5),oX aB hx5,.z (.nat 21)] [5,10,11] [(5,V.ref 21 0)] [(21,some (E.cells (aS x5)))] [(21,true)] ?_;obtain⟨x6,hx6,x7,hx7,h⟩:=dB h;exact rk hC [oV (pS G n x5 hx6),.z (.int 0),oA (aQ aB hx7),oM 2 bA x1,oM 2 bA [x6]] [3,12,13,14,15,16] [(3,ms 20 (g3+1) 2 aB x7)] [(20,some (ar 67 (g3+1) 2 aB x7))] [] (bC hC [8,17] [(8,vI (wr (x2+1)))] ⟨(x7,wr (x2+1)),(g3+1),h,lS⟩)
 obtain rfl:=so h;exact dF (aF hC [2,18] [(2,ms 20 g3 2 aB x1)] (qw (lk hC [.ren 2 20 1] [2] [(2,ms 1 1 2 aB x1)] [(1,some (ar 67 1 2 aB x1)),(20,none)] [(1,true)]) zw))
theorem X8{nest}{r}(h:nI n nest=some r):VQ G 150 [E.tree eU 1 1 (nest.map aC) []] [ms 0 1 2 aC nest] (ms 1 1 2 aC r) [E.tree eU 1 1 (nest.map aC) [],E.tree eU 1 1 (r.map aC) []]:=by
 refine vq aM Tryz.func150 rfl fun w X β0 hC hg=>bJ hC [2] (aF hC [3] [(3,aP)] (qs (aU hC [oN aC nest] [6,7,8] [(6,ms 0 1 2 aC nest),(7,vI (nest.length:Int)),(8,vI 0)] (qb (qw (lk hC [.grow 3 20 58,.tre 20 eU 1] [3] [(3,ms 20 1 2 aC [])] [(20,some (E.tree eU 1 1 (List.map aC []) []))] [(20,true)]) ?_)))));refine l7 h (fun x_ g_=>cM [(3,ms 20 g_ 2 aC x_.1),(6,ms 0 1 2 aC nest),(7,vI (nest.length:Int)),(8,vI x_.2)] [(0,E.tree eU 1 1 (nest.map aC) []),(20,E.tree eU 1 g_ (x_.1.map aC) [])] [0,20]) 1 (lS) ?_;rintro again4 ⟨x1,x2⟩ g3 h;refine aF hC [9] [(9,vK x2 nest)] (nG h (fun c1 h=>?_) fun c1 h=>?_)
 ·refine qk (dU (qs ?_));obtain⟨x5,hx5,h⟩:=bd h;refine qw (E6 hC [.foc 0 25 (0+Int.toNat x2) 0 (aC x5),.foc 0 26 (0+Int.toNat x2) 1 (aC x5),.shd 25,.shd 26] [] [] [(0,some (E.tree eU 1 1 (nest.map aC) [((0+Int.toNat x2),1,ms 26 1 2 aB x5.hi),((0+Int.toNat x2),0,ms 25 1 2 aB x5.lo)])),(25,some (ar 67 1 2 aB x5.lo)),(26,some (ar 67 1 2 aB x5.hi))] [(25,true),(26,true)] (a2 (u4 aC hx5) (u4 aC hx5)) (by kernel_rfl)) (rk hC [oQ (mS aC hx5),oX aC hx5,.z (.nat 21)] [5,10,11] [(5,V.ref 21 0)] [(21,sc [ms 25 1 2 aB x5.lo,ms 26 1 2 aB x5.hi])] [(21,true)] ?_);obtain⟨x6,hx6,x7,hx7,x8,hx8,h⟩:=lN h;exact dk hC bO [oC [25] [22] (rA G hx6),oC [26] [23] (rA G hx7),.z (.lt 24 eU 1),.z (.rows (List.map aC (x1++[(⟨[],[]⟩:Loop)]))),oQ (Eq.refl (ndOf eU 1)),oQ (aGl aC (⟨[],[]⟩:Loop) hx8),oM 2 bX x1,oM 2 bX [(⟨[],[]⟩:Loop)]] [3,12,13,14,15,16,17,18,19,20,21] [(3,ms 20 (g3+1) 2 aC (x1++[(⟨[],[]⟩:Loop)]))] [(25,some (ar 67 1 2 aB x5.lo)),(22,some (ar 67 1 2 aB x6)),(26,some (ar 67 1 2 aB x5.hi)),(23,some (ar 67 1 2 aB x7)),(24,some (E.tree eU 1 1 (List.map aC [(⟨[],[]⟩:Loop)]) [(0,0,ms 22 1 2 aB x6),(0,1,ms 23 1 2 aB x7)])),(20,some (E.tree eU 1 (g3+1) (List.map aC (x1++[(⟨[],[]⟩:Loop)])) (m4 (x1.map aC).length [(0,0,ms 22 1 2 aB x6),(0,1,ms 23 1 2 aB x7)])))] [(25,true),(22,true),(26,true),(23,true),(24,true)] (qw (E6 hC [.tre 22 eU 3,.unf 20 22 (aC (⟨[],[]⟩:Loop)) (List.map aC (x1++[(⟨x6,[]⟩:Loop)])),.tre 23 eU 3,.unf 20 23 (aC (⟨x6,[]⟩:Loop)) (x8.map aC),.len 3 (x8.map aC).length] [3] [(3,ms 20 (g3+1) 2 aC x8)] [(22,none),(23,none),(20,some (E.tree eU 1 (g3+1) (x8.map aC) []))] [] (a9 (Eq.refl (x6.map aB).length) (Eq.refl eU) (M2 aC x1 (⟨[],[]⟩:Loop)) (aFQ aC x1 (ph:=(⟨[],[]⟩:Loop)) (y:=(⟨x6,[]⟩:Loop)) rfl) (Eq.refl (x7.map aB).length) (Eq.refl eU) (M2 aC x1 (⟨x6,[]⟩:Loop)) (Y8 aC (ph:=(⟨x6,[]⟩:Loop)) hx8 rfl) (aFY aC (⟨[],[]⟩:Loop) hx8)) (by kernel_rfl)) (qw (E6 hC [.tre 25 eU 3,.tre 26 eU 3,.unf 0 26 (aC x5) (nest.map aC),.unf 0 25 (aC x5) (nest.map aC)] [] [] [(26,none),(25,none),(0,some (E.tree eU 1 1 (nest.map aC) []))] [] (a8 (Eq.refl (x5.hi.map aB).length) (Eq.refl eU) (u4 aC hx5) (D9 aC hx5 rfl) (Eq.refl (x5.lo.map aB).length) (Eq.refl eU) (u4 aC hx5) (D9 aC hx5 rfl)) (by kernel_rfl)) (bC hC [8,22] [(8,vI (wr (x2+1)))] ⟨(x8,wr (x2+1)),(g3+1),h,lS⟩)))
 obtain rfl:=so h;exact dF (aF hC [2,23] [(2,ms 20 g3 2 aC x1)] (qw (lk hC [.rn 20 1 [2,3] []] [2,3] [(2,ms 1 1 2 aC x1),(3,ms 1 1 2 aC x1)] [(20,none),(1,some (E.tree eU 1 1 (x1.map aC) []))] [(1,true)]) zw))
theorem X6{p}{r}(h:jP n p=some r):VQ G 87 [E.tree eU 1 1 (p.nest.map aC) [],ar 91 1 9 aH p.body] [V.agg [ms 0 1 2 aC p.nest,ms 1 1 9 aH p.body]] (V.agg [ms 2 1 2 aC r.nest,ms 3 1 9 aH r.body]) [E.tree eU 1 1 (p.nest.map aC) [],ar 91 1 9 aH p.body,E.tree eU 1 1 (r.nest.map aC) [],ar 91 1 9 aH r.body]:=by
 refine vq aM Tryz.func87 rfl fun w X β0 hC hg=>rq hC [.z (.nat 25),.z (.nat 20)] [1,2] [(1,V.ref 25 0),(2,V.ref 20 0)] [(25,sc [ms 0 1 2 aC p.nest,ms 1 1 9 aH p.body]),(20,sc [aP,aP])] [(25,true),(20,true)] ?_;obtain⟨x1,hx1,h⟩:=bd h;refine rq hC [oC [0] [21] (X8 G hx1),.z (.nat 22)] [3,6,7,8,9] [(3,V.ref 22 0)] [(0,some (E.tree eU 1 1 (p.nest.map aC) [])),(21,some (E.tree eU 1 1 (x1.map aC) [])),(22,sc [ms 21 1 2 aC x1,aP])] [(0,true),(21,true),(22,true)] (qs (aU hC [oN aH p.body] (fr 10 4) [(11,ms 1 1 9 aH p.body),(12,vI (p.body.length:Int)),(13,vI 0)] (qb (qw (lk hC [.growc 22 1 23 91] [] [] [(23,some (ar 91 1 9 aH [])),(22,sc [ms 21 1 2 aC x1,ms 23 1 9 aH []])] [(23,true)]) (l7 h (fun x_ g_=>cM [(2,V.ref 20 0),(3,V.ref 22 0),(11,ms 1 1 9 aH p.body),(12,vI (p.body.length:Int)),(13,vI x_.2)] [(0,E.tree eU 1 1 (p.nest.map aC) []),(1,ar 91 1 9 aH p.body),(20,E.cells [aP,aP]),(21,E.tree eU 1 1 (x1.map aC) []),(22,E.cells [ms 21 1 2 aC x1,ms 23 g_ 9 aH x_.1]),(23,ar 91 g_ 9 aH x_.1)] [0,1,20,21,22,23,25]) 1 (lS) ?_)))));rintro again5 ⟨x2,x3⟩ g4 h;refine aF hC [14] [(14,vK x3 p.body)] (nG h (fun c1 h=>?_) fun c1 h=>?_)
 ·refine qk (dU ?_);obtain⟨x6,hx6,h⟩:=bd h;refine rq hC [oQ (mS aH hx6),oX aH hx6,.z (.nat 24)] [5,15,16] [(5,V.ref 24 0)] [(24,some (E.cells (cV x6)))] [(24,true)] ?_;obtain⟨x7,hx7,x8,hx8,h⟩:=dB h;exact pV hC bO [oV (t6 G hx7),.z (.int 0),oA (aQ aH hx8),oM 9 d4 x2,oM 9 d4 [x7]] (fr 17 7) [(23,some (ar 91 (g4+1) 9 aH x8)),(22,sc [ms 21 1 2 aC x1,ms 23 (g4+1) 9 aH x8])] [] (bC hC [13,24] [(13,vI (wr (x3+1)))] ⟨(x8,wr (x3+1)),(g4+1),h,lS⟩)
 cases h;exact dF (kL hC [25] [(20,sc [ms 21 1 2 aC x1,ms 23 g4 9 aH x2])] [] (qw (lk hC [.rn 21 2 [] [20,22]] [] [] [(20,sc [ms 2 1 2 aC x1,ms 23 g4 9 aH x2]),(22,sc [ms 2 1 2 aC x1,ms 23 g4 9 aH x2]),(21,none),(2,some (E.tree eU 1 1 (x1.map aC) []))] [(2,true)]) (qw (lk hC [.rn 23 3 [] [20,22]] [] [] [(20,sc [ms 2 1 2 aC x1,ms 3 1 9 aH x2]),(22,sc [ms 2 1 2 aC x1,ms 3 1 9 aH x2]),(23,none),(3,some (ar 91 1 9 aH x2))] [(3,true)]) zw)))
theorem Y2{p}{part}{at_a2}{r}(h:pB n p part at_a2=some r):PQ G 28 [V.agg (bI p),vI part,vI at_a2] (V.tup [V.agg (bI r.1),vB r.2]):=by
 refine pq aM Tryz.func28 rfl fun w X hC=>rq hC [.z (.b (true)),.z (.nat 20)] [3,6,7] [(3,V.tp (bP p)),(6,V.ref 20 0)] [(20,sc [aP,aP])] [(20,true)] (qs ?_);obtain⟨x1,hx1,h⟩:=bd h;refine aR h (fun c1 h=>?_) fun c1 h=>?_
 ·refine rk hC [oV (aDh G n p part (-1) hx1 c1),.z (.nat 21)] [8,9,10,14,15,16,17,18,19,20] [(8,V.ref 21 0),(9,V.t T.nilP),(10,vB false)] [(21,sc [vM aJ [],vM aD []])] [(21,true)] (qs (aU hC (sT 7) (fr 21 10) [(30,vB true)] (xF (b:=true) (by kernel_rfl) (fun c2=>?_) fun c2=>by cases c2)));obtain rfl:=so h;exact yC hC [7,31] [(7,vB false)] [(20,sc [aP,aP])] [] zr
 obtain⟨x5,hx5,h⟩:=bd h;refine rk hC [oC [] [21,22] (aDg G n p part (-1) hx1 c1),.z (.nat 23)] [8,9,10,14,15,16,17,18,19,20] [(8,V.ref 23 0),(9,V.eref 22 1 2 (0+Int.toNat part) 0),(10,vB true)] [(21,some (ar 81 1 2 aJ x1.1.arrays)),(22,some (E.tree eU 0 1 (x1.1.parts.map aD) [])),(23,sc [ms 21 1 2 aJ x1.1.arrays,ms 22 1 2 aD x1.1.parts])] [(21,true),(22,true),(23,true)] (qw (E6 hC [.foc 22 24 (0+Int.toNat part) 0 (aD x5)] [] [] [(22,some (E.tree eU 0 1 (x1.1.parts.map aD) [((0+Int.toNat part),0,ms 24 1 2 aC x5.nest)])),(24,some (E.tree eU 1 1 (x5.nest.map aC) []))] [(24,true)] (a1 (u4 aD hx5)) (by kernel_rfl)) (qs (aU hC (sF 4++[oX aD hx5,eF,oN aC x5.nest,eF,eF]) (fr 21 10) [(30,vD ((x5.nest.length:Int)=0))] (aZ h (fun c3 h=>?_) fun c3 h=>?_))))
 ·obtain rfl:=so h;exact yC hC [7,31] [(7,vB false)] [(20,sc [aP,aP])] [] zr
 refine qk (qs ?_);obtain⟨x6,hx6,x7,hx7,h⟩:=dB h;refine qw (E6 hC [.foc 24 25 (0+Int.toNat 0) 0 (aC x6),.foc 24 26 (0+Int.toNat 0) 1 (aC x6),.shd 25,.shd 26] [] [] [(24,some (E.tree eU 1 1 (x5.nest.map aC) [((0+Int.toNat 0),1,ms 26 1 2 aB x6.hi),((0+Int.toNat 0),0,ms 25 1 2 aB x6.lo)])),(25,some (ar 67 1 2 aB x6.lo)),(26,some (ar 67 1 2 aB x6.hi))] [(25,true),(26,true)] (a2 (u4 aC hx6) (u4 aC hx6)) (by kernel_rfl)) (aY hC [oX aD hx5,oQ (mS aC hx6),oX aC hx6,.z (.b true),.z (.nat 25),.z (.nat 26),oV (U5 G hx7)] [10,11,12,32,33,34,35,36,37,38,39,40,41,42] [(10,vB x7.2.2),(11,vI x7.1),(12,vI x7.2.1)] (qw (E6 hC [.tre 25 eU 3,.tre 26 eU 3,.unf 24 26 (aC x6) (x5.nest.map aC),.unf 24 25 (aC x6) (x5.nest.map aC)] [] [] [(26,none),(25,none),(24,some (E.tree eU 1 1 (x5.nest.map aC) []))] [] (a8 (Eq.refl (x6.hi.map aB).length) (Eq.refl eU) (u4 aC hx6) (D9 aC hx6 rfl) (Eq.refl (x6.lo.map aB).length) (Eq.refl eU) (u4 aC hx6) (D9 aC hx6 rfl)) (by kernel_rfl)) (qs (qs (aR h (fun c5 h=>?_) fun c5 h=>?_)))))
 ·have c6:(!x7.2.2)=true:=by rw [c5];rfl
  refine aY hC (rT 6 c6) (fr 43 9) [(51,vB true)] (xF (b:=true) (by kernel_rfl) (fun c7=>?_) fun c7=>by cases c7);obtain rfl:=so h;exact yC hC [7,52] [(7,vB false)] [(20,sc [aP,aP])] [] zr
 have c6:(!x7.2.2)=false:=by rw [c5];rfl
 obtain⟨x8,hx8,h⟩:=bd h;refine aY hC (rF 4 c6++[oV (bH G hx8),oF c6,oF c6]) (fr 43 9) [(51,vB (!x8))] (vc (b:= !x8) (fun c7=>?_) fun c7=>?_)
 ·have c7:x8=false:=by simpa using c7
  have h:=bf c7 h;obtain rfl:=so h;exact yC hC [7,52] [(7,vB false)] [(20,sc [aP,aP])] [] zr
 have c7:x8=true:=by simpa using c7
 have h:=bt c7 h;refine qk (qs ?_);obtain⟨x9,hx9,h⟩:=bd h;refine qw (E6 hC [.foc 22 27 (0+Int.toNat part) 1 (aD x5),.shd 27] [] [] [(22,some (E.tree eU 0 1 (x1.1.parts.map aD) [((0+Int.toNat part),1,ms 27 1 9 aH x5.body),((0+Int.toNat part),0,ms 24 1 2 aC x5.nest)])),(27,some (ar 91 1 9 aH x5.body))] [(27,true)] (a1 (u4 aD hx5)) (by kernel_rfl)) (rk hC [oX aD hx5,oC [24,27] [28,29] (X6 G hx9),.z (.nat 30)] [13,53,54,55,56] [(13,V.ref 30 0)] [(24,some (E.tree eU 1 1 (x5.nest.map aC) [])),(27,some (ar 91 1 9 aH x5.body)),(28,some (E.tree eU 1 1 (x9.nest.map aC) [])),(29,some (ar 91 1 9 aH x9.body)),(30,sc [ms 28 1 2 aC x9.nest,ms 29 1 9 aH x9.body])] [(24,true),(27,true),(28,true),(29,true),(30,true)] (qs ?_));obtain⟨x10,hx10,x11,hx11,x12,hx12,h⟩:=lN h;obtain⟨x13,hx13,h⟩:=bd h;refine qw (E6 hC [.foc 24 31 (0+Int.toNat 0) 1 (aC x6),.shd 31] [] [] [(24,some (E.tree eU 1 1 (x5.nest.map aC) [((0+Int.toNat 0),1,ms 31 1 2 aB x6.hi)])),(31,some (ar 67 1 2 aB x6.hi))] [(31,true)] (a1 (u4 aC hx6)) (by kernel_rfl)) (rkt hC [oX aD hx5,oQ (mS aC hx6),oX aC hx6,oQ (mS aB hx10),oX aB hx10,.z (.rows (x11.map aB)),oQ (str aB hx11)] (fr 57 10) [(31,some (ar 67 1 2 aB x11))] [] (qw (E6 hC [.tre 31 eU 3,.unf 24 31 (aC x6) (x12.map aC)] [] [] [(31,none),(24,some (E.tree eU 1 1 (x12.map aC) []))] [] (a4 (qL aB hx11) (Eq.refl eU) (u4 aC hx6) (aCj aC hx12 rfl)) (by kernel_rfl)) (qs ?_)));obtain⟨x14,hx14,x15,hx15,x16,hx16,h⟩:=lN h;obtain⟨x17,hx17,h⟩:=bd h;refine qw (E6 hC [.foc 28 32 (0+Int.toNat 0) 0 (aC x14),.shd 32] [] [] [(28,some (E.tree eU 1 1 (x9.nest.map aC) [((0+Int.toNat 0),0,ms 32 1 2 aB x14.lo)])),(32,some (ar 67 1 2 aB x14.lo))] [(32,true)] (a1 (u4 aC hx14)) (by kernel_rfl)) (rkt hC [oQ (mS aC hx14),oX aC hx14,oQ (mS aB hx15),oX aB hx15,.z (.rows (x16.map aB)),oQ (str aB hx16)] (fr 67 8) [(32,some (ar 67 1 2 aB x16))] [] (qw (E6 hC [.tre 32 eU 3,.unf 28 32 (aC x14) (x17.map aC),.tre 27 eU 2,.unf 22 27 (aD x5) (x1.1.parts.map aD),.unf 22 24 (aD x5) (x13.map aD)] [] [] [(32,none),(28,some (E.tree eU 1 1 (x17.map aC) [])),(27,none),(24,none),(22,some (E.tree eU 0 1 (x13.map aD) []))] [] (a12 (qL aB hx16) (Eq.refl eU) (u4 aC hx14) (aCj aC hx17 rfl) (Eq.refl (x5.body.map aH).length) (Eq.refl eU) (u4 aD hx5) (D9 aD hx5 rfl) (qL aC hx12) (Eq.refl eU) (u4 aD hx5) (aCj aD hx13 rfl)) (by kernel_rfl)) (qw (E6 hC [.shd 22,.lenc 23 1 (x13.map aD).length,.shd 28,.lenc 30 0 (x17.map aC).length,.fz 28 [] [30],.fz 29 [] [30]] [] [] [(22,some (ar 62 1 2 aD x13)),(23,sc [ms 21 1 2 aJ x1.1.arrays,ms 22 1 2 aD x13]),(28,none),(29,none),(30,sc [vM aC x17,vM aH x9.body])] [] (a2 (qL aD hx13) (qL aC hx17)) (by kernel_rfl)) ?_)));obtain⟨x18,hx18,x19,hx19,h⟩:=dB h;obtain rfl:=so h;exact o5 hC [.z (.int 1),.z (.nat 33),oC [22,33] [] (H6 G n x13 (wr (part+1)) [(⟨x17,x9.body⟩:Part)] 1 1 hx18)] (fr 75 8) [(33,some (ar 62 1 2 aD [(⟨x17,x9.body⟩:Part)])),(22,some (ar 62 (1+1) 2 aD x18)),(23,sc [ms 21 1 2 aJ x1.1.arrays,ms 22 (1+1) 2 aD x18])] [(33,true),(22,true),(33,true)] (qw (lk hC [.fz 21 [] [23],.fz 22 [] [23]] [] [] [(21,none),(22,none),(23,sc [vM aJ x1.1.arrays,vM aD x18])] []) (rq hC [oV (aBE G hx19)] [7,83,84,85,86] [(7,vB x19.2)] [(20,some (E.cells (bI x19.1)))] [] zr))
theorem X4{p}{part}{at_a2}{r}(h:o1 n p part at_a2=some r):PQ G 29 [V.agg (bI p),vI part,vI at_a2] (V.tup [V.agg (bI r.1),vB r.2]):=by
 refine pq aM Tryz.func29 rfl fun w X hC=>rq hC [.z (.nat 20),.z (.nat 21)] [3,6,7] [(3,V.ref 20 0),(6,V.ref 21 0)] [(20,some (E.cells (bI p))),(21,sc [aP,aP])] [(20,true),(21,true)] ?_;obtain⟨x1,hx1,h⟩:=bd h;refine o5 hC [oV (zG G hx1)] [14,15] [(20,some (E.cells (bI x1)))] [] (qs ?_);obtain⟨x2,hx2,h⟩:=bd h;refine aU hC [oV (aGh G hx2)] (fr 16 4) [(19,vB (!x2))] (aZ h (fun c1 h=>?_) fun c1 h=>?_)
 ·cases h;exact yC hC [7,20] [(7,vB false)] [(21,sc [aP,aP])] [] zr
 refine qk ?_;obtain⟨x3,hx3,h⟩:=bd h;refine rq hC [oR aD hx3,.z (.nat 22)] [8,21,22,23,24,25] [(8,V.ref 22 0)] [(22,some (E.cells (kO x3)))] [(22,true)] ?_;obtain⟨x4,hx4,x5,hx5,h⟩:=dB h;refine aU hC [oR aC hx4,oV (aCY G hx5)] [9,10,11,26,27,28,29,30,31,32,33,34] [(9,vI x5.1),(10,vI x5.2.1),(11,vB x5.2.2)] (qs (vj h (fun x_=>cM [(1,vI part),(2,vI at_a2),(3,V.ref 20 0),(6,V.ref 21 0),(8,V.ref 22 0),(9,vI x5.1),(10,vI x5.2.1),(46,vB x_)] [(20,E.cells (bI x1)),(21,E.cells [aP,aP]),(22,E.cells (kO x3))] [20,21,22]) (fun j6 h=>?_) fun x7 h=>?_))
 ·exact aR h (fun c2 h=>aR h (fun c3 h=>aY hC (rF 4 c2++rF 4 c3) (fr 35 12) [(46,vD (x5.2.1<at_a2))] (lE h)) fun c3 h=>aY hC (rF 4 c2++rT 4 c3) (fr 35 12) [(46,vB true)] (lE h)) fun c2 h=>aY hC (rT 4 c2++sT 4) (fr 35 12) [(46,vB true)] (lE h)
 refine aZ h (fun c4 h=>?_) fun c4 h=>?_
 ·cases h;exact yC hC [7,47] [(7,vB false)] [(21,sc [aP,aP])] [] zr
 refine qk (qs ?_);obtain⟨x8,hx8,x9,hx9,x10,hx10,h⟩:=lN h;obtain⟨x11,hx11,h⟩:=bd h;refine dk hC bO [oC [] [23] (cA G hx8),.z (.at 15),.z (.fz 23 [49] []),.z (.int 0),oC [] [24] (cA G hx9),.z (.at 12),.z (.fz 24 [52] []),.z (.int 0),.z (.int 1),.z (.nat 25),oA (L2 aC hx10),oM 2 bX x3.nest,oA (aQ aC hx11),.z (.nat 26),oM 2 bX [(⟨[x8],[x9]⟩:Loop)],oM 2 bX x10] [12,48,49,50,51,52,53,54,55,56,57,58,59,60,61,62] [(12,V.ref 26 0)] [(23,none),(24,none),(25,some (ar 58 2 2 aC x11)),(26,sc [ms 25 2 2 aC x11,vM aH x3.body])] [(23,true),(24,true),(25,true),(26,true)] (qs ?_);obtain⟨x12,hx12,x13,hx13,x14,hx14,h⟩:=lN h;obtain⟨x15,hx15,h⟩:=bd h;refine dk hC bO [oC [] [27] (cA G hx12),.z (.at 15),.z (.fz 27 [64] []),.z (.int 0),oC [] [28] (cA G hx13),.z (.at 12),.z (.fz 28 [67] []),.z (.int 0),.z (.int 1),.z (.nat 29),oA (L2 aC hx14),oM 2 bX x3.nest,oA (aQ aC hx15),.z (.nat 30),oM 2 bX [(⟨[x12],[x13]⟩:Loop)],oM 2 bX x14] [13,63,64,65,66,67,68,69,70,71,72,73,74,75,76,77] [(13,V.ref 30 0)] [(27,none),(28,none),(29,some (ar 58 2 2 aC x15)),(30,sc [ms 29 2 2 aC x15,vM aH x3.body])] [(27,true),(28,true),(29,true),(30,true)] ?_;obtain⟨x16,hx16,h⟩:=bd h;cases h;exact rq hC [.z (.at 8),.z (.fz 25 [] [26]),.z (.at 7),.z (.fz 29 [] [30]),.z (.int 0),oV (aEA G hx16)] [7,78,79,80,81,82,83,84,85] [(7,vB x16.2)] [(26,sc [vM aC x11,vM aH x3.body]),(25,none),(30,sc [vM aC x15,vM aH x3.body]),(29,none),(21,some (E.cells (bI x16.1)))] [] zr
theorem aDi{nest}{p}{r}(h:u7 n nest p=some r):PQ G 204 [vM aC nest,vM rI p] (vB r):=by
 refine pq aM Tryz.func204 rfl fun w X hC=>bJ hC [4] (qs (vj h (fun x_=>cX [(0,vM aC nest),(1,vM rI p),(23,vB x_)]) (fun j1 h=>?_) fun x4 h=>?_))
 ·obtain⟨x2,hx2,h⟩:=bd h;refine aR h (fun c1 h=>?_) fun c1 h=>aY hC ([oV (lM G hx2)]++rT 4 c1++sT 6) (fr 9 15) [(23,vB true)] (lE h);obtain⟨x3,hx3,h⟩:=bd h;exact aR h (fun c2 h=>aY hC [oV (lM G hx2),oF c1,oF c1,oV (t7 G hx3),oF c1,oF c1,oF c2,oF c2,oN rI p,oF c2,oF c2,oN aC nest,oF c2,oF c2] (fr 9 15) [(23,vB (!decide ((p.length:Int)=(nest.length:Int))))] (lE h)) fun c2 h=>aY hC ([oV (lM G hx2),oF c1,oF c1,oV (t7 G hx3),oF c1,oF c1]++rT 6 c2) (fr 9 15) [(23,vB true)] (lE h)
 refine aZ h (fun c3 h=>?_) fun c3 h=>?_
 ·cases h;exact aF hC [4] [(4,vB false)] zr
 refine qk (qs (aU hC [oN aC nest] [24,25,26] [(24,vM aC nest),(25,vI (nest.length:Int)),(26,vI 0)] (qb (jQ h (fun x_=>cX [(1,vM rI p),(24,vM aC nest),(25,vI (nest.length:Int)),(26,vI x_)]) lS ?_))));rintro again6 x5 h;refine aF hC [27] [(27,vK x5 nest)] (nG h (fun c4 h=>?_) fun c4 h=>?_)
 ·refine qk (dU ?_);obtain⟨x7,hx7,h⟩:=bd h;refine rq hC [oR aC hx7,.z (.nat 20)] [5,6,28,29,30] [(5,vI x5),(6,V.ref 20 0)] [(20,some (E.cells (iG x7)))] [(20,true)] (qs ?_);obtain⟨x8,hx8,x9,hx9,h⟩:=dB h;refine pO hC bO [oA (xJ rI hx8),oI p,oV (vZ G hx9)] [7,8,31,32,33,34,35,36,37,38] [(7,vI x9.1),(8,vI x9.2)] (vj h (fun x_=>cM [(1,vM rI p),(24,vM aC nest),(25,vI (nest.length:Int)),(26,vI x5),(52,vB x_)] [(20,E.cells (iG x7))] [20]) (fun j10 h=>?_) fun x12 h=>?_)
  ·obtain⟨x11,hx11,h⟩:=bd h;exact aR h (fun c5 h=>aY hC ([oR rI hx11]++rF 3 c5++[oR rI hx11]++rF 4 c5) (fr 39 14) [(52,vD (x9.2≤x11))] (lE h)) fun c5 h=>aY hC ([oR rI hx11]++rT 7 c5) (fr 39 14) [(52,vB true)] (lE h)
  refine aZ h (fun c6 h=>?_) fun c6 h=>qk (bC hC [26,53] [(26,vI (wr (x5+1)))] (lE h));cases h;exact aF hC [4] [(4,vB false)] zr
 cases h;exact dF (aF hC [4] [(4,vB true)] zr)
theorem sU{p}{x}{r}(h:fB n p x=some r):PQ G 154 [V.agg (bI p),V.agg (aAG x)] (vB r):=by
 refine pq aM Tryz.func154 rfl fun w X hC=>aU hC [.z (.b (true)),.z (.b (true))] [2,3,4] [(2,V.tp (bP p)),(3,V.tp (K9 x))] (vj h (fun x_=>cX [(4,vB x_)]) (fun j1 h=>?_) fun x6 h=>?_)
 ·obtain⟨x2,hx2,h⟩:=bd h;refine aR h (fun c1 h=>pO hC bO ([oN aD p.parts,oV (bH G hx2)]++rF 13 c1++sF 11) (fr 4 34) [(4,vB false)] (lE h)) fun c1 h=>?_;obtain⟨x3,hx3,x4,hx4,h⟩:=dB h;refine aR h (fun c2 h=>pO hC bO ([oN aD p.parts,oV (bH G hx2)]++rT 7 c1++[oR aD hx3]++rT 3 c1++[oN aH x3.body,oT c1,oT c1,oV (bH G hx4),oT c1]++rF 11 c2) (fr 4 34) [(4,vB false)] (lE h)) fun c2 h=>?_;obtain⟨x5,hx5,h⟩:=bd h;exact pO hC bO ([oN aD p.parts,oV (bH G hx2)]++rT 7 c1++[oR aD hx3]++rT 3 c1++[oN aH x3.body,oT c1,oT c1,oV (bH G hx4),oT c1]++rT 5 c2++[oR aD hx3]++rT 5 c2++[oV (aDi G hx5),oT c2]) (fr 4 34) [(4,vB x5)] (lE h)
 obtain rfl:=so h;exact zr
theorem pH{p}{x}{r}(h:gE n p x=some r):VQ G 89 [] [V.agg (bI p),V.agg (aAG x)] (V.tup [ms 0 1 1 rI r.1,vI r.2.1,vB r.2.2]) [ar 3 1 1 rI r.1]:=by
 refine vq aM Tryz.func89 rfl fun w X β0 hC hg=>aU hC [.z (.b (true)),.z (.b (true))] (fr 2 5) [(2,V.tp (bP p)),(3,V.tp (K9 x))] (qs (vj h (fun x_=>cX [(2,V.tp (bP p)),(3,V.tp (K9 x)),(17,vB x_)]) (fun j1 h=>?_) fun x4 h=>?_))
 ·obtain⟨x2,hx2,h⟩:=bd h;refine aR h (fun c1 h=>?_) fun c1 h=>aY hC ([oV (bK G hx2)]++rT 5 c1) (fr 9 9) [(17,vB true)] (lE h);obtain⟨x3,hx3,h⟩:=bd h;exact aY hC ([oV (bK G hx2)]++rF 3 c1++[oV (sU G hx3),oF c1,oF c1]) (fr 9 9) [(17,vB (!x3))] (lE h)
 refine aZ h (fun c2 h=>?_) fun c2 h=>?_
 ·cases h;exact aF hC [4,5,6] [(4,aP),(5,vI 0),(6,vB false)] (qw (lk hC [.grow 4 0 3] [4] [(4,ms 0 1 1 rI [])] [(0,some (ar 3 1 1 rI []))] [(0,true)]) zw)
 refine qk ?_;obtain⟨x5,hx5,h⟩:=bd h;cases h;exact rq hC [oC [] [20] (vH G hx5)] [7,8,18,19,20,21,22,23] [(7,ms 20 1 1 rI x5.1),(8,vI x5.2)] [(20,some (ar 3 1 1 rI x5.1))] [(20,true)] (aF hC [4,5,6,24,25] [(4,ms 20 1 1 rI x5.1),(5,vI x5.2),(6,vB true)] (xR hC 4 20 (ms 0 1 1 rI x5.1) (ar 3 1 1 rI x5.1)))
theorem sI{p}{q}{r}(h:rG n p q=some r):PQ G 30 [V.agg (bI p),V.agg (bI q)] (vB r):=by
 refine pq aM Tryz.func30 rfl fun w X hC=>aU hC [.z (.b (true)),.z (.b (true))] [2,3,4] [(2,V.tp (bP p)),(3,V.tp (bP q))] ?_;obtain⟨x1,hx1,h⟩:=bd h;refine rq hC [oC [] [20] (iF G hx1)] [5,14,15] [(5,ms 20 1 3 bT x1)] [(20,some (ar 107 1 3 bT x1))] [(20,true)] ?_;obtain⟨x2,hx2,h⟩:=bd h;refine rq hC [oC [] [21] (iF G hx2)] [6,16,17] [(6,ms 21 1 3 bT x2)] [(21,some (ar 107 1 3 bT x2))] [(21,true)] (qs (aU hC [oN bT x1,oN bT x2] (fr 18 5) [(22,vB (!decide ((x1.length:Int)=(x2.length:Int))))] (aZ h (fun c1 h=>?_) fun c1 h=>?_)))
 ·cases h;exact aF hC [4] [(4,vB false)] zr
 refine qk (qs (aF hC [7] [(7,vI 0)] (qb (jQ h (fun x_=>cM [(2,V.tp (bP p)),(3,V.tp (bP q)),(5,ms 20 1 3 bT x1),(6,ms 21 1 3 bT x2),(7,vI x_)] [(20,ar 107 1 3 bT x1),(21,ar 107 1 3 bT x2)] [20,21]) lS ?_))));rintro again4 x3 h;refine qs (aU hC [oN bT x1] (fr 23 4) [(26,vK x3 x1)] (aZ h (fun c2 h=>?_) fun c2 h=>?_))
 ·refine qk (dU (qs ?_));obtain⟨x5,hx5,x6,hx6,h⟩:=dB h;refine dk hC bO [oQ (mS bT hx5),oX bT hx5,oC [] [22] (pH G hx6)] [8,9,10,29,30,31,32,33,34,35,36,37,38] [(8,ms 22 1 1 rI x6.1),(9,vI x6.2.1)] [(22,some (ar 3 1 1 rI x6.1))] [(22,true)] (qs ?_);obtain⟨x7,hx7,x8,hx8,h⟩:=dB h;refine dk hC bO [oQ (mS bT hx7),oX bT hx7,oC [] [23] (pH G hx8)] [11,12,13,39,40,41,42,43,44,45,46,47,48] [(11,ms 23 1 1 rI x8.1),(12,vI x8.2.1)] [(23,some (ar 3 1 1 rI x8.1))] [(23,true)] (vj h (fun x_=>cM [(2,V.tp (bP p)),(3,V.tp (bP q)),(5,ms 20 1 3 bT x1),(6,ms 21 1 3 bT x2),(7,vI x3),(57,vB x_)] [(20,ar 107 1 3 bT x1),(21,ar 107 1 3 bT x2),(22,ar 3 1 1 rI x6.1),(23,ar 3 1 1 rI x8.1)] [20,21,22,23]) (fun j9 h=>?_) fun x11 h=>?_)
  ·refine aR h (fun c3 h=>?_) fun c3 h=>aY hC (rT 5 c3) (fr 49 9) [(57,vB true)] (lE h);obtain⟨x10,hx10,h⟩:=bd h;exact aY hC (rF 3 c3++[.z (.b (true)),oV (S4 G hx10),oF c3,oF c3]) (fr 49 9) [(57,vB (!x10))] (lE h)
  refine aZ h (fun c4 h=>?_) fun c4 h=>qk (bC hC [7,27,28] [(7,vI (wr (x3+1)))] (lE h));cases h;exact aF hC [4] [(4,vB false)] zr
 cases h;exact dF (aF hC [4] [(4,vB true)] zr)
theorem H4(G:GS)(n:Nat)(code:List UInt8)(more:List UInt8){r:Bool}(h:pI n code more=some r):PQ G 8 [vM rY code,vM rY more] (vB r):=by
 refine pq aM Tryz.func8 rfl fun w X hC=>bJ hC [4] (qs (vj h (fun x_=>cX [(0,vM rY code),(1,vM rY more),(19,vB x_)]) (fun j1 h=>aR h (fun c1 h=>aY hC [oN rY code,oF c1,oF c1,oN rY more,oF c1,oF c1] (fr 12 8) [(19,vD ((1048576:Int)<(more.length:Int)))] (lE h)) fun c1 h=>aY hC ([oN rY code]++rT 4 c1) (fr 12 8) [(19,vB true)] (lE h)) fun x2 h=>?_));refine aZ h (fun c2 h=>?_) fun c2 h=>?_
 ·obtain rfl:=so h;exact aF hC [4] [(4,vB true)] zr
 refine qk ?_;obtain⟨x3,hx3,h⟩:=bd h;refine rq hC [oV (zI G hx3),.z (.nat 20)] [5,6,7,20,21,22,23,24,25] [(5,V.ref 20 0),(6,vI x3.2.1),(7,vI x3.2.2)] [(20,some (E.cells (bI x3.1)))] [(20,true)] ?_;obtain⟨x4,hx4,h⟩:=bd h;refine rq hC [oV (Y2 G hx4),.z (.nat 21)] [8,9,26,27,28,29,30,31,32] [(8,V.ref 21 0),(9,vB x4.2)] [(21,some (E.cells (bI x4.1)))] [(21,true)] ?_;obtain⟨x5,hx5,h⟩:=bd h;refine rq hC [oV (X4 G hx5),.z (.nat 22)] [10,11,33,34,35,36,37,38,39] [(10,V.ref 22 0),(11,vB x5.2)] [(22,some (E.cells (bI x5.1)))] [(22,true)] (qs (vj h (fun x_=>cM [(1,vM rY more),(5,V.ref 20 0),(8,V.ref 21 0),(9,vB x4.2),(10,V.ref 22 0),(11,vB x5.2),(52,vB x_)] [(20,E.cells (bI x3.1)),(21,E.cells (bI x4.1)),(22,E.cells (bI x5.1))] [20,21,22]) (fun j6 h=>?_) fun x8 h=>?_))
 ·refine aR h (fun c3 h=>?_) fun c3 h=>aY hC (rT 5 c3++[eT,eT,eT]) (fr 40 13) [(52,vB true)] (lE h);obtain⟨x7,hx7,h⟩:=bd h;exact aR h (fun c4 h=>aY hC (rF 3 c3++[oV (mE G hx7),oF c3,oF c3]++rF 3 c4) (fr 40 13) [(52,vB (!x4.2))] (lE h)) fun c4 h=>aY hC (rF 3 c3++[oV (mE G hx7),oF c3,oF c3]++rT 3 c4) (fr 40 13) [(52,vB true)] (lE h)
 refine aZ h (fun c5 h=>?_) fun c5 h=>?_
 ·refine vj h (fun x_=>cM [(4,vB x_)] [(20,E.cells (bI x3.1)),(21,E.cells (bI x4.1)),(22,E.cells (bI x5.1))] [20,21,22]) (fun j9 h=>?_) fun x11 h=>?_
  ·refine aR h (fun c6 h=>aY hC (rF 4 c6) [4,53,54,55,56,57,58,59,60] [(4,vB false)] (lE h)) fun c6 h=>?_;obtain⟨x10,hx10,h⟩:=bd h;exact aY hC (rT 3 c6++[oV (mE G hx10),oT c6]) [4,53,54,55,56,57,58,59,60] [(4,vB x10)] (lE h)
  obtain rfl:=so h;exact zr
 refine qk (vj h (fun x_=>cM [(4,vB x_)] [(20,E.cells (bI x3.1)),(21,E.cells (bI x4.1)),(22,E.cells (bI x5.1))] [20,21,22]) (fun j12 h=>?_) fun x15 h=>?_)
 ·obtain⟨x13,hx13,h⟩:=bd h;refine aR h (fun c7 h=>aY hC ([oV (sI G hx13)]++rF 6 c7++sF 9) [4,61,62,63,64,65,66,67,68,69,70,71,72,73,74,75,76,77,78,79,80] [(4,vB false)] (lE h)) fun c7 h=>?_;obtain⟨x14,hx14,h⟩:=bd h;refine aR h (fun c8 h=>aY hC ([oV (sI G hx13)]++rT 4 c7++[oN rY more,oT c7,oV (G1 G hx14),oT c7]++rF 9 c8) [4,61,62,63,64,65,66,67,68,69,70,71,72,73,74,75,76,77,78,79,80] [(4,vB false)] (lE h)) fun c8 h=>?_;exact aY hC ([oV (sI G hx13)]++rT 4 c7++[oN rY more,oT c7,oV (G1 G hx14),oT c7]++rT 3 c8++[oN aD x4.1.parts]++rT 3 c8++[oN aD x3.1.parts]++rT 3 c8) [4,61,62,63,64,65,66,67,68,69,70,71,72,73,74,75,76,77,78,79,80] [(4,vD ((x4.1.parts.length:Int)=wr ((x3.1.parts.length:Int)+1)))] (lE h)
 obtain rfl:=so h;exact zr
end Go.Lift
