/- The walks: the code computes what the plain functions say. -/
import Derived.Test.YtiplelpjhgnmoaaGreatZModels
import Derived.Test.YtiplelpjhgnmoaaGreatZWalks0
set_option maxRecDepth 10000
set_option linter.unusedVariables false
namespace Go.Lift
open Go Go.Proofs
variable (G:GS) {n:Nat}
theorem nV{a}{depth}{r}(h:iJ n a depth=some r):PQ G 214 [V.agg (dX a),vI depth] (vB r):=by
 unfold iJ at h
 refine pq aS Tryz.func214 rfl fun w X hC=> ?_
 refine rq hC [.z (.b (true))] [2,4] [(2,V.tp (d5 a))] [] [] (qs (rq hC [] [5] [(5,vI 0)] [] [] (qb (kJ h (fun x_=>aZ [(1,vI depth),(2,V.tp (d5 a)),(5,vI x_)] [] []) lS ?_))))
 rintro again2 x1 h
 refine qs (rq hC [oN aB a.subs] (fr 6 5) [(10,vB (decide (x1<(a.subs.length:Int))))] [] [] (aU h (fun c1 h=> ?_) (fun c1 h=> ?_)))
 ·refine qk (qs (qb (vj h (fun x_=>aZ [(1,vI depth),(2,V.tp (d5 a)),(5,vI x1),(29,vB x_)] [] []) (fun j3 h=> ?_) (fun x7 h=> ?_))))
  ·
   obtain⟨x4,hx4,x5,hx5,h⟩:=d4 h
   refine aT h (fun c2 h=> ?_) (fun c2 h=> ?_)
   ·obtain⟨x6,hx6,h⟩:=bd h
    exact rk hC ([oR aB hx4,oV (cW G hx5)]++rF 4 c2++[oR aB hx4,oF c2,oF c2,oV (pL G hx6)]++rF 3 c2) (fr 13 17) [(29,vB (decide (depth<x6)))] [] [] (lE h)
   ·exact rk hC ([oR aB hx4,oV (cW G hx5)]++rT 9 c2) (fr 13 17) [(29,vB true)] [] [] (lE h)
  ·refine aU h (fun c3 h=> ?_) (fun c3 h=> ?_)
   ·obtain rfl:=so h
    exact rq hC [] [4] [(4,vB false)] [] [] (qr eR)
   ·exact qk (rk hC [] [5,11,12] [(5,vI (wr (x1+1)))] [] [] (lE h))
 ·refine dL (vj h (fun x_=>aZ [(4,vB x_)] [] []) (fun j8 h=> ?_) (fun x9 h=> ?_))
  ·
   refine aT h (fun c4 h=> ?_) (fun c4 h=> ?_)
   ·exact rk hC (rF 4 c4++sF 14) [4,30,31,32,33,34,35,36,37,38,39,40,41,42,43,44,45,46,47,48,49,50,51,52,53,54,55] [(4,vB false)] [] [] (lE h)
   ·refine aT h (fun c5 h=> ?_) (fun c5 h=> ?_)
    ·exact rk hC (rT 4 c4++rF 4 c5++sF 10) [4,30,31,32,33,34,35,36,37,38,39,40,41,42,43,44,45,46,47,48,49,50,51,52,53,54,55] [(4,vB false)] [] [] (lE h)
    ·refine aT h (fun c6 h=> ?_) (fun c6 h=> ?_)
     ·exact rk hC (rT 4 c4++rT 4 c5++rF 5 c6++sF 5) [4,30,31,32,33,34,35,36,37,38,39,40,41,42,43,44,45,46,47,48,49,50,51,52,53,54,55] [(4,vB false)] [] [] (lE h)
     ·refine aT h (fun c7 h=> ?_) (fun c7 h=> ?_)
      ·exact rk hC (rT 4 c4++rT 4 c5++rT 3 c6++[oN aB a.subs,oT c6,oT c6]++rF 5 c7) [4,30,31,32,33,34,35,36,37,38,39,40,41,42,43,44,45,46,47,48,49,50,51,52,53,54,55] [(4,vB false)] [] [] (lE h)
      ·exact rk hC (rT 4 c4++rT 4 c5++rT 3 c6++[oN aB a.subs,oT c6,oT c6]++rT 3 c7++[oN aB a.subs,oT c7,oT c7]) [4,30,31,32,33,34,35,36,37,38,39,40,41,42,43,44,45,46,47,48,49,50,51,52,53,54,55] [(4,vB (decide ((a.subs.length:Int)≤2)))] [] [] (lE h)
  ·obtain rfl:=so h
   exact qr eR
theorem jL{a}{r}(h:iI n a=some r):PQ G 277 [V.agg (dX a)] (vB r):=by
 unfold iI at h
 refine pq aS Tryz.func277 rfl fun w X hC=> ?_
 refine rq hC [.z (.b (true))] [1,2] [(1,V.tp (d5 a))] [] [] (vj h (fun x_=>aZ [(2,vB x_)] [] []) (fun j1 h=> ?_) (fun x2 h=> ?_))
 ·
  refine aT h (fun c1 h=> ?_) (fun c1 h=> ?_)
  ·exact rk hC (rF 5 c1) (fr 2 10) [(2,vB false)] [] [] (lE h)
  ·exact rk hC (rT 3 c1++[oN aB a.subs,oT c1,oT c1]) (fr 2 10) [(2,vB (decide ((a.subs.length:Int)=0)))] [] [] (lE h)
 ·obtain rfl:=so h
  exact qr eR
theorem iU{a}{r}(h:kX n a=some r):PQ G 278 [V.agg (bC a)] (vB r):=by
 unfold kX at h
 refine pq aS Tryz.func278 rfl fun w X hC=> ?_
 refine rq hC [.z (.b (true))] [1,2] [(1,V.tp (bK a))] [] [] (vj h (fun x_=>aZ [(2,vB x_)] [] []) (fun j1 h=> ?_) (fun x2 h=> ?_))
 ·
  refine aT h (fun c1 h=> ?_) (fun c1 h=> ?_)
  ·exact rk hC ([oN rI a.coefs]++rF 4 c1) (fr 2 10) [(2,vB false)] [] [] (lE h)
  ·exact rk hC ([oN rI a.coefs]++rT 4 c1) (fr 2 10) [(2,vB (decide (a.const=0)))] [] [] (lE h)
 ·obtain rfl:=so h
  exact qr eR
theorem aBM{e}{depth}{r}(h:sB n e depth=some r):PQ G 256 [V.agg (f0 e),vI depth] (vB r):=by
 unfold sB at h
 refine pq aS Tryz.func256 rfl fun w X hC=> ?_
 refine rq hC [.z (.b (true))] [2,4] [(2,V.tp (iE e))] [] [] (qs (rq hC [] [5,6,7] [(7,vB (decide (e.kind=2)))] [] [] (aU h (fun c1 h=> ?_) (fun c1 h=> ?_))))
 ·refine vj h (fun x_=>aZ [(4,vB x_)] [] []) (fun j1 h=> ?_) (fun x5 h=> ?_)
  ·
   refine aT h (fun c2 h=> ?_) (fun c2 h=> ?_)
   ·exact rk hC (rF 4 c2++sF 10) [4,8,9,10,11,12,13,14,15,16,17,18,19,20,21,22,23,24,25,26,27] [(4,vB false)] [] [] (lE h)
   ·obtain⟨x2,hx2,h⟩:=bd h
    refine aT h (fun c3 h=> ?_) (fun c3 h=> ?_)
    ·exact rk hC (rT 3 c2++[oV (jL G hx2),oT c2]++rF 4 c3++sF 6) [4,8,9,10,11,12,13,14,15,16,17,18,19,20,21,22,23,24,25,26,27] [(4,vB false)] [] [] (lE h)
    ·obtain⟨x3,hx3,h⟩:=bd h
     refine aT h (fun c4 h=> ?_) (fun c4 h=> ?_)
     ·exact rk hC (rT 3 c2++[oV (jL G hx2),oT c2]++rT 3 c3++[oV (cW G hx3),oT c3]++rF 6 c4) [4,8,9,10,11,12,13,14,15,16,17,18,19,20,21,22,23,24,25,26,27] [(4,vB false)] [] [] (lE h)
     ·obtain⟨x4,hx4,h⟩:=bd h
      exact rk hC (rT 3 c2++[oV (jL G hx2),oT c2]++rT 3 c3++[oV (cW G hx3),oT c3]++rT 3 c4++[oV (pL G hx4)]++rT 3 c4) [4,8,9,10,11,12,13,14,15,16,17,18,19,20,21,22,23,24,25,26,27] [(4,vB (decide (x4≤depth)))] [] [] (lE h)
  ·obtain rfl:=so h
   exact qr eR
 ·refine qk (qs (rq hC [] [28,29,30] [(30,vB (decide (e.kind=3)))] [] [] (aU h (fun c5 h=> ?_) (fun c5 h=> ?_))))
  ·refine vj h (fun x_=>aZ [(4,vB x_)] [] []) (fun j6 h=> ?_) (fun x9 h=> ?_)
   ·
    refine aT h (fun c6 h=> ?_) (fun c6 h=> ?_)
    ·exact rk hC (rF 4 c6++sF 5) [4,31,32,33,34,35,36,37,38,39,40,41,42,43,44] [(4,vB false)] [] [] (lE h)
    ·obtain⟨x7,hx7,h⟩:=bd h
     refine aT h (fun c7 h=> ?_) (fun c7 h=> ?_)
     ·exact rk hC (rT 3 c6++[oV (iU G hx7),oT c6]++rF 5 c7) [4,31,32,33,34,35,36,37,38,39,40,41,42,43,44] [(4,vB false)] [] [] (lE h)
     ·obtain⟨x8,hx8,h⟩:=bd h
      exact rk hC (rT 3 c6++[oV (iU G hx7),oT c6]++rT 4 c7++[oV (nV G hx8),oT c7]) [4,31,32,33,34,35,36,37,38,39,40,41,42,43,44] [(4,vB x8)] [] [] (lE h)
   ·obtain rfl:=so h
    exact qr eR
  ·refine qk (qs (rq hC [] [45,46,47] [(47,vB (decide (e.kind=1)))] [] [] (aU h (fun c8 h=> ?_) (fun c8 h=> ?_))))
   ·refine vj h (fun x_=>aZ [(4,vB x_)] [] []) (fun j10 h=> ?_) (fun x13 h=> ?_)
    ·
     refine aT h (fun c9 h=> ?_) (fun c9 h=> ?_)
     ·exact rk hC (rF 4 c9++sF 8) [4,48,49,50,51,52,53,54,55,56,57,58,59,60,61,62,63,64,65] [(4,vB false)] [] [] (lE h)
     ·refine aT h (fun c10 h=> ?_) (fun c10 h=> ?_)
      ·exact rk hC (rT 4 c9++rF 4 c10++sF 4) [4,48,49,50,51,52,53,54,55,56,57,58,59,60,61,62,63,64,65] [(4,vB false)] [] [] (lE h)
      ·obtain⟨x11,hx11,h⟩:=bd h
       refine aT h (fun c11 h=> ?_) (fun c11 h=> ?_)
       ·exact rk hC (rT 4 c9++rT 3 c10++[oV (iU G hx11),oT c10]++rF 4 c11) [4,48,49,50,51,52,53,54,55,56,57,58,59,60,61,62,63,64,65] [(4,vB false)] [] [] (lE h)
       ·obtain⟨x12,hx12,h⟩:=bd h
        exact rk hC (rT 4 c9++rT 3 c10++[oV (iU G hx11),oT c10]++rT 3 c11++[oV (jL G hx12),oT c11]) [4,48,49,50,51,52,53,54,55,56,57,58,59,60,61,62,63,64,65] [(4,vB x12)] [] [] (lE h)
    ·obtain rfl:=so h
     exact qr eR
   ·refine qk (vj h (fun x_=>aZ [(4,vB x_)] [] []) (fun j14 h=> ?_) (fun x17 h=> ?_))
    ·
     refine aT h (fun c12 h=> ?_) (fun c12 h=> ?_)
     ·exact rk hC (rF 4 c12++sF 4) [4,66,67,68,69,70,71,72,73,74,75,76,77,78] [(4,vB false)] [] [] (lE h)
     ·obtain⟨x15,hx15,h⟩:=bd h
      refine aT h (fun c13 h=> ?_) (fun c13 h=> ?_)
      ·exact rk hC (rT 3 c12++[oV (iU G hx15),oT c12]++rF 4 c13) [4,66,67,68,69,70,71,72,73,74,75,76,77,78] [(4,vB false)] [] [] (lE h)
      ·obtain⟨x16,hx16,h⟩:=bd h
       exact rk hC (rT 3 c12++[oV (iU G hx15),oT c12]++rT 3 c13++[oV (jL G hx16),oT c13]) [4,66,67,68,69,70,71,72,73,74,75,76,77,78] [(4,vB x16)] [] [] (lE h)
    ·obtain rfl:=so h
     exact qr eR
theorem zF{kind}{r}(h:o7 n kind=some r):PQ G 255 [vI kind] (vI r):=by
 unfold o7 at h
 refine pq aS Tryz.func255 rfl fun w X hC=> ?_
 refine rq hC [] [2] [] [] [] (qs (rq hC [] [3] [(3,vI kind)] [] [] (qb (vj h (fun x_=>aZ [(3,vI kind),(4,vB x_)] [] []) (fun j1 h=> ?_) (fun x2 h=> ?_)))))
 ·
  refine rq hC [] [4,5] [(4,vB (decide (kind=1)))] [] [] (aU h (fun c1 h=> ?_) (fun c1 h=> ?_))
  ·exact qk (lE h)
  ·refine rq hC [] [4,6] [(4,vB (decide (kind=2)))] [] [] (aU h (fun c2 h=> ?_) (fun c2 h=> ?_))
   ·exact qk (lE h)
   ·exact rk hC [] [4,7] [(4,vB (decide (kind=3)))] [] [] (lE h)
 ·refine aU h (fun c3 h=> ?_) (fun c3 h=> ?_)
  ·obtain rfl:=so h
   exact rq hC [] [2] [(2,vI 0)] [] [] (qr eR)
  ·refine vj h (fun x_=>aZ [(8,vB x_)] [] []) (fun j3 h=> ?_) (fun x4 h=> ?_)
   ·
    refine rq hC [] [8,9] [(8,vB (decide (kind=4)))] [] [] (aU h (fun c4 h=> ?_) (fun c4 h=> ?_))
    ·exact qk (lE h)
    ·refine rq hC [] [8,10] [(8,vB (decide (kind=5)))] [] [] (aU h (fun c5 h=> ?_) (fun c5 h=> ?_))
     ·exact qk (lE h)
     ·exact rk hC [] [8,11] [(8,vB (decide (kind=6)))] [] [] (lE h)
   ·refine aU h (fun c6 h=> ?_) (fun c6 h=> ?_)
    ·obtain rfl:=so h
     exact rq hC [] [2] [(2,vI 2)] [] [] (qr eR)
    ·obtain rfl:=so h
     exact qk (rq hC [] [2] [(2,vI (-1))] [] [] (qr eR))
theorem R7(G:GS): ∀(n:Nat) (e:Expr) (depth:Int) (levels:Int) {r:Bool} (h:s_l3Shape n e depth levels=some r),PQ G 215 [V.agg (f0 e),vI depth,vI levels] (vB r):=by
 intro n
 induction n with
 |zero=>intro e depth levels r h;rw [s_l3Shape.eq_def] at h;cases h
 |succ n ih=>
  intro e depth levels r h
  rw [s_l3Shape.eq_def] at h;dsimp only at h
  refine pq aS Tryz.func215 rfl fun w X hC=> ?_
  refine rq hC [.z (.b (true))] [3,6] [(3,V.tp (iE e))] [] [] (qs (vj h (fun x_=>aZ [(1,vI depth),(2,vI levels),(3,V.tp (iE e)),(24,vB x_)] [] []) (fun j1 h=> ?_) (fun x4 h=> ?_)))
  ·
   refine aT h (fun c1 h=> ?_) (fun c1 h=> ?_)
   ·obtain⟨x2,hx2,h⟩:=bd h
    refine aT h (fun c2 h=> ?_) (fun c2 h=> ?_)
    ·obtain⟨x3,hx3,h⟩:=bd h
     exact dk hC bP (rF 3 c1++[oV (zF G hx2)]++rF 3 c1++[oN aL e.kids,oF c1,oF c1]++rF 3 c2++[oV (aBM G hx3),oF c2,oF c2]) (fr 8 17) [(24,vB (!x3))] [] [] (lE h)
    ·exact dk hC bP (rF 3 c1++[oV (zF G hx2)]++rF 3 c1++[oN aL e.kids,oF c1,oF c1]++rT 5 c2) (fr 8 17) [(24,vB true)] [] [] (lE h)
   ·exact dk hC bP (rT 8 c1++sT 5) (fr 8 17) [(24,vB true)] [] [] (lE h)
  ·refine aU h (fun c3 h=> ?_) (fun c3 h=> ?_)
   ·obtain rfl:=so h
    exact rq hC [] [6] [(6,vB false)] [] [] (qr eR)
   ·refine qk (qs (rq hC [] [7] [(7,vI 0)] [] [] (qb (kJ h (fun x_=>aZ [(1,vI depth),(2,vI levels),(3,V.tp (iE e)),(7,vI x_)] [] []) lS ?_))))
    rintro again6 x5 h
    refine qs (rq hC [oN aL e.kids] (fr 25 5) [(29,vB (decide (x5<(e.kids.length:Int))))] [] [] (aU h (fun c4 h=> ?_) (fun c4 h=> ?_)))
    ·refine qk (qs (qb ?_))
     obtain⟨x7,hx7,x8,hx8,h⟩:=d4 h
     refine rq hC [.z (.row (fD x7)),oQ (iZ aL hx7 (eA x7)),oV (ih x7 depth (wr (levels-1)) hx8)] (fr 32 10) [(41,vB (!x8))] [] [] (aU h (fun c5 h=> ?_) (fun c5 h=> ?_))
     ·obtain rfl:=so h
      exact rq hC [] [6] [(6,vB false)] [] [] (qr eR)
     ·exact qk (rk hC [] [7,30,31] [(7,vI (wr (x5+1)))] [] [] (lE h))
    ·obtain rfl:=so h
     exact dL (rq hC [] [6] [(6,vB true)] [] [] (qr eR))
theorem l9{s}{depth}{r}(h:fC n s depth=some r):PQ G 158 [V.agg (fU s),vI depth] (vB r):=by
 unfold fC at h
 refine pq aS Tryz.func158 rfl fun w X hC=> ?_
 refine rq hC [.z (.b (true))] [2,4] [(2,V.tp (qK s))] [] [] (qs (vj h (fun x_=>aZ [(2,V.tp (qK s)),(24,vB x_)] [] []) (fun j1 h=> ?_) (fun x4 h=> ?_)))
 ·
  refine aT h (fun c1 h=> ?_) (fun c1 h=> ?_)
  ·refine aT h (fun c2 h=> ?_) (fun c2 h=> ?_)
   ·obtain⟨x2,hx2,h⟩:=bd h
    refine aT h (fun c3 h=> ?_) (fun c3 h=> ?_)
    ·obtain⟨x3,hx3,h⟩:=bd h
     exact rk hC (rF 3 c1++rF 4 c2++[oV (nV G hx2),oF c2,oF c2]++rF 4 c3++[oV (R7 G n s.value depth 5 hx3),oF c3,oF c3]) (fr 5 20) [(24,vB (!x3))] [] [] (lE h)
    ·exact rk hC (rF 3 c1++rF 4 c2++[oV (nV G hx2),oF c2,oF c2]++rT 6 c3) (fr 5 20) [(24,vB true)] [] [] (lE h)
   ·exact rk hC (rF 3 c1++rT 6 c2++sT 6) (fr 5 20) [(24,vB true)] [] [] (lE h)
  ·exact rk hC (rT 3 c1++sT 12) (fr 5 20) [(24,vB true)] [] [] (lE h)
 ·refine aU h (fun c4 h=> ?_) (fun c4 h=> ?_)
  ·obtain rfl:=so h
   exact rq hC [] [4] [(4,vB false)] [] [] (qr eR)
  ·refine qk ?_
   obtain⟨x5,hx5,h⟩:=bd h
   obtain rfl:=so h
   exact rq hC [oV (S3 G n s.value 5 hx5)] [4,25,26,27,28] [(4,vB (decide (x5≤12)))] [] [] (qr eR)
theorem zN{s}{r}(h:nE n s=some r):PQ G 248 [V.agg (fU s)] (vS r):=by
 unfold nE at h
 refine pq aS Tryz.func248 rfl fun w X hC=> ?_
 refine rq hC [.z (.b (true))] [1,2] [(1,V.tp (qK s))] [] [] (qs ?_)
 obtain⟨x1,hx1,h⟩:=bd h
 refine rq hC [oV (l9 G hx1)] [3,4,5] [(5,vB (!x1))] [] [] (aU h (fun c1 h=> ?_) (fun c1 h=> ?_))
 ·obtain rfl:=so h
  exact rq hC [] [2] [(2,vS [])] [] [] (qr eR)
 ·refine qk (qs ?_)
  obtain⟨x2,hx2,x3,hx3,x4,hx4,h⟩:=kQ h
  obtain⟨x5,hx5,h⟩:=bd h
  obtain rfl:=so h
  exact dk hC bP [oV (iW G hx2),oS hx3,oV (zE G n s.value hx4),oS hx5] [2,6,7,8,9,10,11,12,13] [(2,vS x5)] [] [] (qr eR)
theorem vQ{s}{at_a1}{end_a2}{r}(h:pT n s at_a1 end_a2=some r):PQ G 273 [vS s,vI at_a1,vY end_a2] (vI r):=by
 unfold pT at h
 refine pq aS Tryz.func273 rfl fun w X hC=> ?_
 refine rq hC [] [6] [] [] [] (qs (rq hC [] [7,8] [(7,vI at_a1)] [] [] (qb (kJ h (fun x_=>aZ [(0,vS s),(2,vY end_a2),(7,vI x_)] [] []) lS ?_))))
 rintro again2 x1 h
 refine qs (rq hC [] (fr 9 4) [(12,vB (decide (x1<(s.length:Int))))] [] [] (aU h (fun c1 h=> ?_) (fun c1 h=> ?_)))
 ·refine qk (qs (qb ?_))
  obtain⟨x3,hx3,h⟩:=bd h
  refine rq hC [oY hx3] (fr 15 5) [(19,vB (decide ((x3.toNat:Int)=(end_a2.toNat:Int))))] [] [] (aU h (fun c2 h=> ?_) (fun c2 h=> ?_))
  ·obtain rfl:=so h
   exact rq hC [] [6,20] [(6,vI x1)] [] [] (qr eR)
  ·exact qk (rk hC [] [7,13,14] [(7,vI (wr (x1+1)))] [] [] (lE h))
 ·obtain rfl:=so h
  exact dL (rq hC [] [6] [(6,vI (-1))] [] [] (qr eR))
theorem l3{s}{at_a1}{r}(h:f9 n s at_a1=some r):PQ G 246 [vS s,vI at_a1] (V.tup [V.agg (dX r.1),vI r.2]):=by
 unfold f9 at h
 refine pq aS Tryz.func246 rfl fun w X hC=> ?_
 refine rq hC [.z (.nat 20)] [4,5] [(4,V.ref 20 0)] [(20,sc [vS [],V.t T.nilS])] [(20,true)] ?_
 obtain⟨x1,hx1,h⟩:=bd h
 refine rq hC [oV (vQ G hx1)] (fr 6 4) [(6,vI x1)] [] [] (qs (vj h (fun x_=>aZ [(0,vS s),(1,vI at_a1),(4,V.ref 20 0),(6,vI x1),(20,vB x_)] [(20,E.cells [vS [],V.t T.nilS])] [20]) (fun j2 h=> ?_) (fun x4 h=> ?_)))
 ·
  refine aT h (fun c1 h=> ?_) (fun c1 h=> ?_)
  ·obtain⟨x3,hx3,h⟩:=bd h
   exact rk hC (rF 4 c1++[oY hx3,oF c1,oF c1]) (fr 10 11) [(20,vB (!decide ((x3.toNat:Int)=91)))] [] [] (lE h)
  ·exact rk hC (rT 6 c1) (fr 10 11) [(20,vB true)] [] [] (lE h)
 ·refine aU h (fun c2 h=> ?_) (fun c2 h=> ?_)
  ·obtain rfl:=so h
   exact rq hC [] [5,21] [(5,vI (-1))] [(20,sc [vS [],V.t T.nilS])] [] (qr eR)
  ·refine qk (qs ?_)
   obtain⟨x5,hx5,x6,hx6,x7,hx7,h⟩:=kQ h
   obtain rfl:=so h
   exact dk hC bP [oS hx5,oS hx6,oC [] [21] (jS G hx7)] [5,22,23,24,25,26,27,28,29,30,31,32,33,34,35] [(5,vI (wr (x1+1)))] [(21,some (ar 65 1 2 aB x7)),(20,sc [vS x5,ms 21 1 2 aB x7])] [(21,true)] (qw (lk hC [.fz 21 [] [20]] [] [] [(20,sc [vS x5,vM aB x7]),(21,none)] []) (qr eR))
theorem R8(G:GS)(n:Nat)(self:(List UInt8)→Int→Int→Option (Expr×Int))(hself: ∀(q0:List UInt8) (q1:Int) (q2:Int) {r:Expr×Int},self q0 q1 q2=some r→PQ G 247 [vS q0,vI q1,vI q2] (V.tup [V.agg (f0 r.1),vI r.2]))(s:List UInt8)(at_a1:Int)(levels:Int){r:Expr×Int}(h:tX n self s at_a1 levels=some r):PQ G 274 [vS s,vI at_a1,vI levels] (V.tup [V.agg (f0 r.1),vI r.2]):=by
 unfold tX at h
 refine pq aS Tryz.func274 rfl fun w X hC=> ?_
 refine rq hC [.z (.nat 20)] [6,7] [(6,V.ref 20 0)] [(20,sc [vI 0,vI 0,V.t T.nilS,vI 0,vS [],V.t T.nilS,V.t T.nilS])] [(20,true)] ?_
 obtain⟨x1,hx1,h⟩:=bd h
 refine rq hC [oV (hself s at_a1 levels hx1),.z (.nat 21)] [8,9,13,14,15,16,17,18,19] [(8,V.ref 21 0),(9,vI x1.2)] [(21,some (E.cells (f0 x1.1)))] [(21,true)] (qs (vj h (fun x_=>aZ [(0,vS s),(2,vI levels),(6,V.ref 20 0),(8,V.ref 21 0),(9,vI x1.2),(27,vB x_)] [(20,E.cells [vI 0,vI 0,V.t T.nilS,vI 0,vS [],V.t T.nilS,V.t T.nilS]),(21,E.cells (f0 x1.1))] [20,21]) (fun j2 h=> ?_) (fun x3 h=> ?_)))
 ·
  refine aT h (fun c1 h=> ?_) (fun c1 h=> ?_)
  ·exact rk hC (rF 5 c1) (fr 20 8) [(27,vB (decide ((s.length:Int)≤x1.2)))] [] [] (lE h)
  ·exact rk hC (rT 5 c1) (fr 20 8) [(27,vB true)] [] [] (lE h)
 ·refine aU h (fun c2 h=> ?_) (fun c2 h=> ?_)
  ·obtain rfl:=so h
   exact rq hC [] [7,28] [(7,vI (-1))] [(20,sc [vI 0,vI 0,V.t T.nilS,vI 0,vS [],V.t T.nilS,V.t T.nilS])] [] (qr eR)
  ·refine qk (rq hC [] [10] [(10,vI 4)] [] [] (vj h (fun x_=>aZ [(0,vS s),(2,vI levels),(6,V.ref 20 0),(8,V.ref 21 0),(9,vI x1.2),(10,vI x_)] [(20,E.cells [vI 0,vI 0,V.t T.nilS,vI 0,vS [],V.t T.nilS,V.t T.nilS]),(21,E.cells (f0 x1.1))] [20,21]) (fun j4 h=> ?_) (fun x6 h=> ?_)))
   ·
    obtain⟨x5,hx5,h⟩:=bd h
    refine rq hC [oY hx5] [29,30,31] [(31,vY x5)] [] [] (qb (rq hC [] [32,33] [(32,vB (decide ((x5.toNat:Int)=45)))] [] [] (aU h (fun c3 h=> ?_) (fun c3 h=> ?_))))
    ·exact rk hC [] [10] [(10,vI 5)] [] [] (lE h)
    ·refine rq hC [] [34,35] [(34,vB (decide ((x5.toNat:Int)=42)))] [] [] (aU h (fun c4 h=> ?_) (fun c4 h=> ?_))
     ·exact rk hC [] [10] [(10,vI 6)] [] [] (lE h)
     ·exact qk (lE h)
   ·obtain⟨x7,hx7,h⟩:=bd h
    refine rq hC [oV (hself s (wr (x1.2+1)) levels hx7),.z (.nat 22)] [11,12,36,37,38,39,40,41,42,43] [(11,V.ref 22 0),(12,vI x7.2)] [(22,some (E.cells (f0 x7.1)))] [(22,true)] (qs (vj h (fun x_=>aZ [(6,V.ref 20 0),(8,V.ref 21 0),(10,vI x6),(11,V.ref 22 0),(12,vI x7.2),(51,vB x_)] [(20,E.cells [vI 0,vI 0,V.t T.nilS,vI 0,vS [],V.t T.nilS,V.t T.nilS]),(21,E.cells (f0 x1.1)),(22,E.cells (f0 x7.1))] [20,21,22]) (fun j8 h=> ?_) (fun x9 h=> ?_)))
    ·
     refine aT h (fun c5 h=> ?_) (fun c5 h=> ?_)
     ·exact rk hC (rF 5 c5) (fr 44 8) [(51,vB (decide ((s.length:Int)≤x7.2)))] [] [] (lE h)
     ·exact rk hC (rT 5 c5) (fr 44 8) [(51,vB true)] [] [] (lE h)
    ·refine aU h (fun c6 h=> ?_) (fun c6 h=> ?_)
     ·obtain rfl:=so h
      exact rq hC [] [7,52] [(7,vI (-1))] [(20,sc [vI 0,vI 0,V.t T.nilS,vI 0,vS [],V.t T.nilS,V.t T.nilS])] [] (qr eR)
     ·obtain rfl:=so h
      exact qk (rq hC [.z (.int 2),.z (.rows (List.map aL [x1.1,x7.1])),oQ (aET x1.1 x7.1)] [7,53,54,55,56,57,58,59] [(7,vI (wr (x7.2+1)))] [(20,sc [vI x6,vI 0,V.t T.nilS,vI 0,vS [],V.t T.nilS,vM aL [x1.1,x7.1]])] [] (qr eR))
theorem S2(G:GS): ∀(n:Nat) (s:List UInt8) (at_a1:Int) (levels:Int) {r:Expr×Int} (h:s_l3Parse n s at_a1 levels=some r),PQ G 247 [vS s,vI at_a1,vI levels] (V.tup [V.agg (f0 r.1),vI r.2]):=by
 intro n
 induction n with
 |zero=>intro s at_a1 levels r h;rw [s_l3Parse.eq_def] at h;cases h
 |succ n ih=>
  intro s at_a1 levels r h
  rw [s_l3Parse.eq_def] at h;dsimp only at h
  refine pq aS Tryz.func247 rfl fun w X hC=> ?_
  refine rq hC [.z (.nat 20)] [6,7] [(6,V.ref 20 0)] [(20,sc [vI 0,vI 0,V.t T.nilS,vI 0,vS [],V.t T.nilS,V.t T.nilS])] [(20,true)] (qs (vj h (fun x_=>aZ [(0,vS s),(1,vI at_a1),(2,vI levels),(6,V.ref 20 0),(26,vB x_)] [(20,E.cells [vI 0,vI 0,V.t T.nilS,vI 0,vS [],V.t T.nilS,V.t T.nilS])] [20]) (fun j1 h=> ?_) (fun x2 h=> ?_)))
  ·
   refine aT h (fun c1 h=> ?_) (fun c1 h=> ?_)
   ·refine aT h (fun c2 h=> ?_) (fun c2 h=> ?_)
    ·exact rk hC (rF 3 c1++rF 5 c2) (fr 15 12) [(26,vB (decide ((s.length:Int)≤at_a1)))] [] [] (lE h)
    ·exact rk hC (rF 3 c1++rT 5 c2) (fr 15 12) [(26,vB true)] [] [] (lE h)
   ·exact rk hC (rT 3 c1++sT 5) (fr 15 12) [(26,vB true)] [] [] (lE h)
  ·refine aU h (fun c3 h=> ?_) (fun c3 h=> ?_)
   ·obtain rfl:=so h
    exact rq hC [] [7,27] [(7,vI (-1))] [(20,sc [vI 0,vI 0,V.t T.nilS,vI 0,vS [],V.t T.nilS,V.t T.nilS])] [] (qr eR)
   ·refine qk (qs (qb ?_))
    obtain⟨x3,hx3,h⟩:=bd h
    refine rq hC [oY hx3] (fr 28 5) [(28,vB (decide ((x3.toNat:Int)=123)))] [] [] (aU h (fun c4 h=> ?_) (fun c4 h=> ?_))
    ·obtain⟨x4,hx4,h⟩:=bd h
     refine rq hC [oV (vQ G hx4)] [8,33,34,35] [(8,vI x4)] [] [] (qs (rq hC [] [36,37] [(37,vB (decide (x4<0)))] [] [] (aU h (fun c5 h=> ?_) (fun c5 h=> ?_))))
     ·obtain rfl:=so h
      exact rq hC [] [7,38] [(7,vI (-1))] [(20,sc [vI 0,vI 0,V.t T.nilS,vI 0,vS [],V.t T.nilS,V.t T.nilS])] [] (qr eR)
     ·refine qk ?_
      obtain⟨x5,hx5,x6,hx6,h⟩:=d4 h
      obtain rfl:=so h
      exact rq hC [oS hx5,oV (oD G hx6),.z (.nat 21)] [9,10,39,40,41,42,43,44,45,46,47] [(9,V.ref 21 0)] [(21,some (E.cells (bC x6.1)))] [(21,true)] (rq hC [] [7,48,49,50,51] [(7,vI (wr (x4+1)))] [(20,sc [vI 2,vI 0,vM rI x6.1.coefs,vI x6.1.const,vS [],V.t T.nilS,V.t T.nilS])] [] (qr eR))
    ·refine vj h (fun x_=>aZ [(0,vS s),(1,vI at_a1),(2,vI levels),(6,V.ref 20 0),(52,vB x_)] [(20,E.cells [vI 0,vI 0,V.t T.nilS,vI 0,vS [],V.t T.nilS,V.t T.nilS])] [20]) (fun j7 h=> ?_) (fun x8 h=> ?_)
     ·
      refine aT h (fun c6 h=> ?_) (fun c6 h=> ?_)
      ·exact rk hC ([oY hx3]++rF 5 c6) (fr 52 11) [(52,vB false)] [] [] (lE h)
      ·exact rk hC ([oY hx3]++rT 3 c6++[oY hx3,oT c6,oT c6]) (fr 52 11) [(52,vB (decide ((x3.toNat:Int)≤68)))] [] [] (lE h)
     ·refine aU h (fun c7 h=> ?_) (fun c7 h=> ?_)
      ·obtain⟨x9,hx9,h⟩:=bd h
       obtain rfl:=so h
       exact rq hC [oV (l3 G hx9),.z (.nat 21)] [11,12,63,64,65,66,67,68] [(11,V.ref 21 0),(12,vI x9.2)] [(21,some (E.cells (dX x9.1)))] [(21,true)] (rq hC [] [7,69,70,71] [(7,vI x9.2)] [(20,sc [vI 3,vI 0,V.t T.nilS,vI 0,vS x9.1.array,vM aB x9.1.subs,V.t T.nilS])] [] (qr eR))
      ·refine rq hC [oY hx3] (fr 72 5) [(72,vB (decide ((x3.toNat:Int)=40)))] [] [] (aU h (fun c8 h=> ?_) (fun c8 h=> ?_))
       ·obtain⟨x10,hx10,h⟩:=bd h
        obtain rfl:=so h
        exact rq hC [oV (R8 G n (s_l3Parse n) (fun q0 q1 q2 r h=>ih q0 q1 q2 h) s (wr (at_a1+1)) (wr (levels-1)) hx10)] [7,77,78,79,80,81,82,83,84] [(7,vI x10.2)] [(20,some (E.cells (f0 x10.1)))] [] (qr eR)
       ·refine qk ?_
        obtain⟨x11,hx11,h⟩:=bd h
        refine rq hC [oV (tF G hx11)] [13,14,85,86,87,88,89,90] [(13,vI x11.1),(14,vI x11.2)] [] [] (qs (rq hC [] [91,92,93] [(93,vB (decide (x11.2=at_a1)))] [] [] (aU h (fun c9 h=> ?_) (fun c9 h=> ?_))))
        ·obtain rfl:=so h
         exact rq hC [] [7,94] [(7,vI (-1))] [(20,sc [vI 0,vI 0,V.t T.nilS,vI 0,vS [],V.t T.nilS,V.t T.nilS])] [] (qr eR)
        ·obtain rfl:=so h
         exact qk (rq hC [] [7,95,96,97] [(7,vI x11.2)] [(20,sc [vI 1,vI x11.1,V.t T.nilS,vI 0,vS [],V.t T.nilS,V.t T.nilS])] [] (qr eR))
theorem qR{text}{r}(h:jE n text=some r):PQ G 206 [vS text] (V.tup [V.agg (fU r.1),vB r.2]):=by
 unfold jE at h
 refine pq aS Tryz.func206 rfl fun w X hC=> ?_
 refine rq hC [.z (.nat 20)] [2,3] [(2,V.ref 20 0)] [(20,sc [vS [],V.t T.nilS,vI 0,vI 0,V.t T.nilS,vI 0,vS [],V.t T.nilS,V.t T.nilS])] [(20,true)] (qs (rq hC [] [9,10,11] [(11,vB (decide ((text.length:Int)<4)))] [] [] (aU h (fun c1 h=> ?_) (fun c1 h=> ?_))))
 ·obtain rfl:=so h
  exact rq hC [] [3,12] [(3,vB false)] [(20,sc [vS [],V.t T.nilS,vI 0,vI 0,V.t T.nilS,vI 0,vS [],V.t T.nilS,V.t T.nilS])] [] (qr eR)
 ·refine qk ?_
  obtain⟨x1,hx1,h⟩:=bd h
  refine rq hC [oV (l3 G hx1),.z (.nat 21)] [4,5,13,14,15,16,17] [(4,V.ref 21 0),(5,vI x1.2)] [(21,some (E.cells (dX x1.1)))] [(21,true)] (qs (vj h (fun x_=>aZ [(0,vS text),(2,V.ref 20 0),(4,V.ref 21 0),(5,vI x1.2),(25,vB x_)] [(20,E.cells [vS [],V.t T.nilS,vI 0,vI 0,V.t T.nilS,vI 0,vS [],V.t T.nilS,V.t T.nilS]),(21,E.cells (dX x1.1))] [20,21]) (fun j2 h=> ?_) (fun x3 h=> ?_)))
  ·
   refine aT h (fun c2 h=> ?_) (fun c2 h=> ?_)
   ·exact rk hC (rF 5 c2) (fr 18 8) [(25,vB (decide ((text.length:Int)≤x1.2)))] [] [] (lE h)
   ·exact rk hC (rT 5 c2) (fr 18 8) [(25,vB true)] [] [] (lE h)
  ·refine aU h (fun c3 h=> ?_) (fun c3 h=> ?_)
   ·obtain rfl:=so h
    exact rq hC [] [3,26] [(3,vB false)] [(20,sc [vS [],V.t T.nilS,vI 0,vI 0,V.t T.nilS,vI 0,vS [],V.t T.nilS,V.t T.nilS])] [] (qr eR)
   ·refine qk ?_
    obtain⟨x4,hx4,h⟩:=bd h
    refine rq hC [oV (S2 G n text (wr (x1.2+1)) 5 hx4),.z (.nat 22)] [6,7,27,28,29,30,31,32,33] [(6,V.ref 22 0)] [(22,some (E.cells (f0 x4.1)))] [(22,true)] (rq hC [.z (.nat 23)] [8,34,35,36] [(8,V.ref 23 0)] [(23,sc [vS x1.1.array,vM aB x1.1.subs,vI x4.1.kind,vI x4.1.num,vM rI x4.1.index.coefs,vI x4.1.index.const,vS x4.1.read.array,vM aB x4.1.read.subs,vM aL x4.1.kids])] [(23,true)] (qs ?_))
    obtain⟨x5,hx5,h⟩:=bd h
    refine rq hC [oV (zN G hx5)] (fr 37 4) [(40,vB (!decide (x5=text)))] [] [] (aU h (fun c4 h=> ?_) (fun c4 h=> ?_))
    ·obtain rfl:=so h
     exact rq hC [] [3,41] [(3,vB false)] [(20,sc [vS [],V.t T.nilS,vI 0,vI 0,V.t T.nilS,vI 0,vS [],V.t T.nilS,V.t T.nilS])] [] (qr eR)
    ·obtain rfl:=so h
     exact qk (rq hC [] [3,42] [(3,vB true)] [(20,sc [vS x1.1.array,vM aB x1.1.subs,vI x4.1.kind,vI x4.1.num,vM rI x4.1.index.coefs,vI x4.1.index.const,vS x4.1.read.array,vM aB x4.1.read.subs,vM aL x4.1.kids])] [] (qr eR))
def pH:List Nd:=[⟨62,2,[(0,1),(1,2)]⟩,⟨58,2,[]⟩,⟨87,9,[]⟩]
theorem aAh(G:GS)(n:Nat)(p:Prog)(line:List UInt8)(g0 g1:Nat){r:Prog}(h:xA n p line=some r):VQ G 155 [ar 77 g0 2 aI p.arrays,E.tree pH 0 g1 (List.map aF p.parts) []] [V.agg [ms 0 g0 2 aI p.arrays,ms 1 g1 2 aF p.parts],vS line] (V.agg [ms 0 (g0+1) 2 aI r.arrays,ms 1 (g1+1) 2 aF r.parts]) [ar 77 (g0+1) 2 aI r.arrays,E.tree pH 0 (g1+1) (List.map aF r.parts) []]:=by
 unfold xA at h
 refine vq aS Tryz.func155 rfl fun w X β0 hC hg=> ?_
 refine rq hC [.z (.nat 20),.z (.nat 21)] [0,2,4] [(2,V.ref 20 0),(4,V.ref 21 0)] [(20,sc [ms 0 g0 2 aI p.arrays,ms 1 g1 2 aF p.parts]),(21,sc [V.t T.nilS,V.t T.nilS])] [(20,true),(21,true)] ?_
 obtain⟨x1,hx1,h⟩:=bd h
 refine rq hC [oC [] [22] (tG G hx1)] [5,11,12] [(5,ms 22 1 1 rS x1)] [(22,some (ar 9 1 1 rS x1))] [(22,true)] (rq hC [oN aF p.parts] [6,13,14,15,16] [(6,vI (wr ((p.parts.length:Int)-1)))] [] [] (qw (lk hC [.fz 22 [5] []] [5] [(5,vM rS x1)] [(22,none)] []) (qs (qb (vj h (fun x_=>aZ [(1,vS line),(2,V.ref 20 0),(4,V.ref 21 0),(5,vM rS x1),(6,vI (wr ((p.parts.length:Int)-1))),(17,vB x_)] [(0,ar 77 g0 2 aI p.arrays),(1,E.tree pH 0 g1 (List.map aF p.parts) []),(20,E.cells [ms 0 g0 2 aI p.arrays,ms 1 g1 2 aF p.parts]),(21,E.cells [V.t T.nilS,V.t T.nilS])] [0,1,20,21,22]) (fun j2 h=> ?_) (fun x4 h=> ?_))))))
 ·
  refine aT h (fun c1 h=> ?_) (fun c1 h=> ?_)
  ·exact rk hC ([oN rS x1]++rF 5 c1) (fr 17 10) [(17,vB false)] [] [] (lE h)
  ·obtain⟨x3,hx3,h⟩:=bd h
   exact rk hC ([oN rS x1,oT c1,oT c1,oR rS hx3]++rT 3 c1) (fr 17 10) [(17,vB (decide (x3=[97,114,114,97,121])))] [] [] (lE h)
 ·refine aU h (fun c2 h=> ?_) (fun c2 h=> ?_)
  ·obtain⟨x5,hx5,x6,hx6,h⟩:=d4 h
   obtain rfl:=so h
   exact dk hC bP [oV (R5 G hx5),.z (.int 0),oA (aM aI hx6),oQ (bZ (r:=aI) 2 mP p.arrays),oQ (bZ (r:=aI) 2 mP [x5])] (fr 27 7) [] [(0,some (ar 77 (g0+1) 2 aI x6)),(20,sc [ms 0 (g0+1) 2 aI x6,ms 1 g1 2 aF p.parts])] [] (rq hC [] [98] [] [(21,sc [ms 0 (g0+1) 2 aI x6,ms 1 g1 2 aF p.parts])] [] (qw (cT 21 1 1 g1 g1 2 0 (List.map aF p.parts).length (e:=E.tree pH 0 g1 (List.map aF p.parts) []) (cs:=[ms 0 (g0+1) 2 aI x6,ms 1 g1 2 aF p.parts]) rfl (by kernel_rfl) (by kernel_rfl) (by kernel_rfl) (by kernel_rfl) rfl rfl hg.2.1) (qr eW)))
  ·refine rq hC [] [34,35,36] [(34,vB (decide (line=[112,97,114,116])))] [] [] (aU h (fun c3 h=> ?_) (fun c3 h=> ?_))
   ·obtain⟨x7,hx7,h⟩:=bd h
    obtain rfl:=so h
    exact rk hC [.z (.at 4),.z (.growa 39 0 24 58),.z (.growa 39 1 25 87),.z (.lt 26 pH 0),.z (.rows (List.map aF (p.parts++[(⟨[],[]⟩:Part)]))),.z (.at 2),.z (.tre 24 pH 1),.z (.unf 1 24 (aF (⟨[],[]⟩:Part)) (List.map aF (p.parts++[(⟨[],[]⟩:Part)]))),.z (.tre 25 pH 2),.z (.unf 1 25 (aF (⟨[],[]⟩:Part)) (List.map aF x7)),.z (.len 41 (List.map aF x7).length),oQ (Eq.refl (ndOf pH 0)),oQ (aF3 aF (⟨[],[]⟩:Part) hx7),oQ (bZ (r:=aF) 2 iO p.parts),oQ (bZ (r:=aF) 2 iO [(⟨[],[]⟩:Part)]),oQ (Eq.refl (List.map aD []).length),oQ (Eq.refl pH),oQ (aCv aF p.parts (⟨[],[]⟩:Part)),oQ (aFJ aF p.parts (ph:=(⟨[],[]⟩:Part)) (y:=(⟨[],[]⟩:Part)) rfl),oQ (Eq.refl (List.map aR []).length),oQ (Eq.refl pH),oQ (aCv aF p.parts (⟨[],[]⟩:Part)),oQ (aCn aF hx7 (ph:=(⟨[],[]⟩:Part)) rfl),oQ (aFK aF (⟨[],[]⟩:Part) hx7)] (fr 37 6) [] [(24,none),(25,none),(26,some (E.tree pH 0 1 (List.map aF [(⟨[],[]⟩:Part)]) [(0,0,ms 24 1 2 aD []),(0,1,ms 25 1 9 aR [])])),(1,some (E.tree pH 0 (g1+1) (List.map aF x7) [])),(20,sc [ms 0 g0 2 aI p.arrays,ms 1 (g1+1) 2 aF x7])] [(24,true),(25,true),(26,true)] (rq hC [] [98] [] [(21,sc [ms 0 g0 2 aI p.arrays,ms 1 (g1+1) 2 aF x7])] [] (qw (cT 21 0 0 g0 g0 2 0 (List.map aI p.arrays).length (e:= .arr 77 g0 2 (List.map aI p.arrays)) (cs:=[ms 0 g0 2 aI p.arrays,ms 1 (g1+1) 2 aF x7]) rfl (by kernel_rfl) (by kernel_rfl) (by kernel_rfl) (by kernel_rfl) rfl rfl hg.1) (qr eW)))
   ·refine vj h (fun x_=>aZ [(1,vS line),(2,V.ref 20 0),(4,V.ref 21 0),(6,vI (wr ((p.parts.length:Int)-1))),(43,vB x_)] [(0,ar 77 g0 2 aI p.arrays),(1,E.tree pH 0 g1 (List.map aF p.parts) []),(20,E.cells [ms 0 g0 2 aI p.arrays,ms 1 g1 2 aF p.parts]),(21,E.cells [V.t T.nilS,V.t T.nilS])] [0,1,20,21,22]) (fun j6 h=> ?_) (fun x8 h=> ?_)
    ·
     refine aT h (fun c4 h=> ?_) (fun c4 h=> ?_)
     ·exact rk hC (rF 4 c4++sF 5) (fr 43 14) [(43,vB false)] [] [] (lE h)
     ·refine aT h (fun c5 h=> ?_) (fun c5 h=> ?_)
      ·exact rk hC ([oT c4,oT c4,oN rS x1,oT c4,oT c4]++rF 5 c5) (fr 43 14) [(43,vB false)] [] [] (lE h)
      ·obtain⟨x7,hx7,h⟩:=bd h
       exact rk hC ([oT c4,oT c4,oN rS x1,oT c4,oT c4,oT c5,oT c5,oR rS hx7]++rT 3 c5) (fr 43 14) [(43,vB (decide (x7=[102,111,114])))] [] [] (lE h)
    ·refine aU h (fun c6 h=> ?_) (fun c6 h=> ?_)
     ·obtain⟨x9,hx9,h⟩:=bd h
      refine rq hC [.z (.foc 1 24 (0+Int.toNat (wr ((p.parts.length:Int)-1))) 0 (aF x9)),.z (.foc 1 25 (0+Int.toNat (wr ((p.parts.length:Int)-1))) 1 (aF x9)),oX aF hx9,.z (.nat 23),oQ (M1 aF hx9),oQ (lO aF hx9),oQ (M1 aF hx9)] [7,57,58,59,60,61] [(7,V.ref 23 0)] [(1,some (E.tree pH 0 g1 (List.map aF p.parts) [((0+Int.toNat (wr ((p.parts.length:Int)-1))),1,ms 25 1 9 aR x9.body),((0+Int.toNat (wr ((p.parts.length:Int)-1))),0,ms 24 1 2 aD x9.nest)])),(24,some (E.tree pH 1 1 (List.map aD x9.nest) [])),(25,some (E.tree pH 2 1 (List.map aR x9.body) [])),(23,sc [ms 24 1 2 aD x9.nest,ms 25 1 9 aR x9.body])] [(24,true),(25,true),(23,true)] (qw (lk hC [.shd 24] [] [] [(24,some (ar 58 1 2 aD x9.nest))] []) (qs ?_))
      obtain⟨x10,hx10,x13,hx13,x14,hx14,h⟩:=kQ h
      obtain rfl:=so h
      exact dk hC bP [oV (aAq G hx10),.z (.int 0),oA (aM aD hx13),oQ (bZ (r:=aD) 2 eY x9.nest),oQ (bZ (r:=aD) 2 eY [x10])] (fr 62 7) [] [(24,some (ar 58 2 2 aD x13)),(23,sc [ms 24 2 2 aD x13,ms 25 1 9 aR x9.body])] [] (rk hC [oQ (lO aF hx9),oX aF hx9,.z (.unf 1 25 (aF x9) (List.map aF p.parts)),.z (.tre 24 pH 1),.z (.unf 1 24 (aF x9) (List.map aF x14)),.z (.lenc 20 1 (List.map aF x14).length),oQ (Eq.refl (List.map aR x9.body).length),oQ (Eq.refl pH),oQ (M1 aF hx9),oQ (aCp aF hx9 rfl),oQ (Eq.refl (List.map aD x13).length),oQ (Eq.refl pH),oQ (M1 aF hx9),oQ (aCo aF hx14 rfl),oQ (sM aF hx14)] (fr 69 5) [] [(24,none),(25,none),(1,some (E.tree pH 0 g1 (List.map aF x14) [])),(20,sc [ms 0 g0 2 aI p.arrays,ms 1 g1 2 aF x14])] [] (rq hC [] [98] [] [(21,sc [ms 0 g0 2 aI p.arrays,ms 1 g1 2 aF x14])] [] (qw (cT 21 0 0 g0 g0 2 0 (List.map aI p.arrays).length (e:= .arr 77 g0 2 (List.map aI p.arrays)) (cs:=[ms 0 g0 2 aI p.arrays,ms 1 g1 2 aF x14]) rfl (by kernel_rfl) (by kernel_rfl) (by kernel_rfl) (by kernel_rfl) rfl rfl hg.1) (qw (cT 21 1 1 g1 g1 2 0 (List.map aF x14).length (e:=E.tree pH 0 g1 (List.map aF x14) []) (cs:=[ms 0 (g0+1) 2 aI p.arrays,ms 1 g1 2 aF x14]) rfl (by kernel_rfl) (by kernel_rfl) (by kernel_rfl) (by kernel_rfl) rfl rfl hg.2.1) (qr eW)))))
     ·refine rq hC [] [74,75,76] [(74,vB (decide ((0:Int)≤wr ((p.parts.length:Int)-1))))] [] [] (aU h (fun c7 h=> ?_) (fun c7 h=> ?_))
      ·obtain⟨x11,hx11,h⟩:=bd h
       refine rq hC [.z (.foc 1 25 (0+Int.toNat (wr ((p.parts.length:Int)-1))) 1 (aF x11)),.z (.foc 1 26 (0+Int.toNat (wr ((p.parts.length:Int)-1))) 0 (aF x11)),oX aF hx11,.z (.nat 23),oQ (M1 aF hx11),oQ (lO aF hx11),oQ (M1 aF hx11)] [8,77,78,79,80,81] [(8,V.ref 23 0)] [(1,some (E.tree pH 0 g1 (List.map aF p.parts) [((0+Int.toNat (wr ((p.parts.length:Int)-1))),0,ms 26 1 2 aD x11.nest),((0+Int.toNat (wr ((p.parts.length:Int)-1))),1,ms 25 1 9 aR x11.body)])),(25,some (E.tree pH 2 1 (List.map aR x11.body) [])),(26,some (E.tree pH 1 1 (List.map aD x11.nest) [])),(23,sc [ms 26 1 2 aD x11.nest,ms 25 1 9 aR x11.body])] [(25,true),(26,true),(23,true)] (qw (lk hC [.shd 25] [] [] [(25,some (ar 87 1 9 aR x11.body))] []) ?_)
       obtain⟨x12,hx12,h⟩:=bd h
       refine rq hC [oV (qR G hx12),.z (.nat 24)] [9,10,82,83,84,85,86] [(9,V.ref 24 0)] [(24,some (E.cells (fU x12.1)))] [(24,true)] ?_
       obtain⟨x15,hx15,x16,hx16,h⟩:=d4 h
       obtain rfl:=so h
       exact rq hC [.z (.int 0),oA (aM aR hx15),oQ (bZ (r:=aR) 9 kL x11.body),oQ (bZ (r:=aR) 9 kL [x12.1])] (fr 87 6) [] [(25,some (ar 87 2 9 aR x15)),(23,sc [ms 26 1 2 aD x11.nest,ms 25 2 9 aR x15])] [] (rk hC [oQ (lO aF hx11),oX aF hx11,.z (.unf 1 26 (aF x11) (List.map aF p.parts)),.z (.tre 25 pH 2),.z (.unf 1 25 (aF x11) (List.map aF x16)),.z (.lenc 20 1 (List.map aF x16).length),oQ (Eq.refl (List.map aD x11.nest).length),oQ (Eq.refl pH),oQ (M1 aF hx11),oQ (aCp aF hx11 rfl),oQ (Eq.refl (List.map aR x15).length),oQ (Eq.refl pH),oQ (M1 aF hx11),oQ (aCo aF hx16 rfl),oQ (sM aF hx16)] (fr 93 5) [] [(25,none),(26,none),(1,some (E.tree pH 0 g1 (List.map aF x16) [])),(20,sc [ms 0 g0 2 aI p.arrays,ms 1 g1 2 aF x16])] [] (rq hC [] [98] [] [(21,sc [ms 0 g0 2 aI p.arrays,ms 1 g1 2 aF x16])] [] (qw (cT 21 0 0 g0 g0 2 0 (List.map aI p.arrays).length (e:= .arr 77 g0 2 (List.map aI p.arrays)) (cs:=[ms 0 g0 2 aI p.arrays,ms 1 g1 2 aF x16]) rfl (by kernel_rfl) (by kernel_rfl) (by kernel_rfl) (by kernel_rfl) rfl rfl hg.1) (qw (cT 21 1 1 g1 g1 2 0 (List.map aF x16).length (e:=E.tree pH 0 g1 (List.map aF x16) []) (cs:=[ms 0 (g0+1) 2 aI p.arrays,ms 1 g1 2 aF x16]) rfl (by kernel_rfl) (by kernel_rfl) (by kernel_rfl) (by kernel_rfl) rfl rfl hg.2.1) (qr eW)))))
      ·obtain rfl:=so h
       exact qk (rq hC [] [98] [] [(21,sc [ms 0 g0 2 aI p.arrays,ms 1 g1 2 aF p.parts])] [] (qw (cT 21 0 0 g0 g0 2 0 (List.map aI p.arrays).length (e:= .arr 77 g0 2 (List.map aI p.arrays)) (cs:=[ms 0 g0 2 aI p.arrays,ms 1 g1 2 aF p.parts]) rfl (by kernel_rfl) (by kernel_rfl) (by kernel_rfl) (by kernel_rfl) rfl rfl hg.1) (qw (cT 21 1 1 g1 g1 2 0 (List.map aF p.parts).length (e:=E.tree pH 0 g1 (List.map aF p.parts) []) (cs:=[ms 0 (g0+1) 2 aI p.arrays,ms 1 g1 2 aF p.parts]) rfl (by kernel_rfl) (by kernel_rfl) (by kernel_rfl) (by kernel_rfl) rfl rfl hg.2.1) (qr eW))))
theorem tD{list}{r}(h:kW n list=some r):PQ G 117 [vM aI list] (vB r):=by
 unfold kW at h
 refine pq aS Tryz.func117 rfl fun w X hC=> ?_
 refine rq hC [] [2] [] [] [] (qs (rq hC [] [3] [(3,vI 0)] [] [] (qb (kJ h (fun x_=>aZ [(0,vM aI list),(3,vI x_)] [] []) lS ?_))))
 rintro again2 x1 h
 refine qs (rq hC [oN aI list] (fr 6 4) [(9,vB (decide (x1<(list.length:Int))))] [] [] (aU h (fun c1 h=> ?_) (fun c1 h=> ?_)))
 ·refine qk (qs (qb ?_))
  obtain⟨x3,hx3,h⟩:=bd h
  refine rq hC [oR aI hx3,.z (.nat 20)] [4,12,13,14,15] [(4,V.ref 20 0)] [(20,sc [vS x3.name,vM rI x3.dims])] [(20,true)] (qs (vj h (fun x_=>aZ [(0,vM aI list),(3,vI x1),(4,V.ref 20 0),(56,vB x_)] [(20,E.cells [vS x3.name,vM rI x3.dims])] [20]) (fun j4 h=> ?_) (fun x6 h=> ?_)))
  ·
   refine aT h (fun c2 h=> ?_) (fun c2 h=> ?_)
   ·refine aT h (fun c3 h=> ?_) (fun c3 h=> ?_)
    ·refine aT h (fun c4 h=> ?_) (fun c4 h=> ?_)
     ·refine aT h (fun c5 h=> ?_) (fun c5 h=> ?_)
      ·refine aT h (fun c6 h=> ?_) (fun c6 h=> ?_)
       ·exact dk hC bP (rF 4 c2++rF 4 c3++rF 3 c4++rF 9 c5++[oF c4,oF c5,oF c4,eF,eF,eF,oN rI x3.dims,eF,eF]++rF 3 c6++[oN rI x3.dims,oF c6,oF c6]) (fr 16 41) [(56,vB (decide ((2:Int)<(x3.dims.length:Int))))] [] [] (lE h)
       ·exact dk hC bP (rF 4 c2++rF 4 c3++rF 3 c4++rF 9 c5++[oF c4,oF c5,oF c4,eF,eF,eF,oN rI x3.dims,eF,eF]++rT 5 c6) (fr 16 41) [(56,vB true)] [] [] (lE h)
      ·obtain⟨x5,hx5,h⟩:=bd h
       refine aT h (fun c7 h=> ?_) (fun c7 h=> ?_)
       ·refine aT h (fun c8 h=> ?_) (fun c8 h=> ?_)
        ·exact dk hC bP (rF 4 c2++rF 4 c3++rF 3 c4++rT 4 c5++[oR aI hx5]++rT 5 c5++[oF c4,oT c5,oF c4]++rF 3 c7++[oN rI x3.dims,oF c7,oF c7]++rF 3 c8++[oN rI x3.dims,oF c8,oF c8]) (fr 16 41) [(56,vB (decide ((2:Int)<(x3.dims.length:Int))))] [] [] (lE h)
        ·exact dk hC bP (rF 4 c2++rF 4 c3++rF 3 c4++rT 4 c5++[oR aI hx5]++rT 5 c5++[oF c4,oT c5,oF c4]++rF 3 c7++[oN rI x3.dims,oF c7,oF c7]++rT 5 c8) (fr 16 41) [(56,vB true)] [] [] (lE h)
       ·exact dk hC bP (rF 4 c2++rF 4 c3++rF 3 c4++rT 4 c5++[oR aI hx5]++rT 5 c5++[oF c4,oT c5,oF c4]++rT 5 c7++sT 5) (fr 16 41) [(56,vB true)] [] [] (lE h)
     ·exact dk hC bP (rF 4 c2++rF 4 c3++rT 5 c4++sT 10) (fr 16 41) [(56,vB true)] [] [] (lE h)
    ·exact dk hC bP (rF 4 c2++rT 4 c3++sT 15) (fr 16 41) [(56,vB true)] [] [] (lE h)
   ·exact dk hC bP (rT 4 c2++sT 19) (fr 16 41) [(56,vB true)] [] [] (lE h)
  ·refine aU h (fun c9 h=> ?_) (fun c9 h=> ?_)
   ·obtain rfl:=so h
    exact rq hC [] [2] [(2,vB false)] [] [] (qr eR)
   ·refine qk (rq hC [] [5] [(5,vI 0)] [] [] (qb (kJ h (fun x_=>aZ [(0,vM aI list),(3,vI x1),(4,V.ref 20 0),(5,vI x_)] [(20,E.cells [vS x3.name,vM rI x3.dims])] [20]) lS ?_)))
    rintro again8 x7 h
    refine qs (rq hC [oN rI x3.dims] (fr 57 5) [(61,vB (decide (x7<(x3.dims.length:Int))))] [] [] (aU h (fun c10 h=> ?_) (fun c10 h=> ?_)))
    ·refine qk (qs (qb (vj h (fun x_=>aZ [(0,vM aI list),(3,vI x1),(4,V.ref 20 0),(5,vI x7),(77,vB x_)] [(20,E.cells [vS x3.name,vM rI x3.dims])] [20]) (fun j9 h=> ?_) (fun x11 h=> ?_))))
     ·
      obtain⟨x10,hx10,h⟩:=bd h
      refine aT h (fun c11 h=> ?_) (fun c11 h=> ?_)
      ·exact rk hC ([oR rI hx10]++rF 4 c11++[oR rI hx10]++rF 3 c11) (fr 64 14) [(77,vB (decide ((6:Int)<x10)))] [] [] (lE h)
      ·exact rk hC ([oR rI hx10]++rT 7 c11) (fr 64 14) [(77,vB true)] [] [] (lE h)
     ·refine aU h (fun c12 h=> ?_) (fun c12 h=> ?_)
      ·obtain rfl:=so h
       exact rq hC [] [2] [(2,vB false)] [] [] (qr eR)
      ·exact qk (rk hC [] [5,62,63] [(5,vI (wr (x7+1)))] [] [] (lE h))
    ·exact dL (rk hC [] [3,10,11] [(3,vI (wr (x1+1)))] [] [] (lE h))
 ·obtain rfl:=so h
  exact dL (rq hC [oN aI list] [2,78,79,80] [(2,vB (decide ((list.length:Int)≤4)))] [] [] (qr eR))
theorem S4{p}{r}(h:mJ n p=some r):PQ G 160 [vM rI p] (vB r):=by
 unfold mJ at h
 refine pq aS Tryz.func160 rfl fun w X hC=> ?_
 refine rq hC [] [2] [] [] [] (qs (rq hC [] [3] [(3,vI 0)] [] [] (qb (kJ h (fun x_=>aZ [(0,vM rI p),(3,vI x_)] [] []) lS ?_))))
 rintro again2 x1 h
 refine qs (rq hC [oN rI p] (fr 4 4) [(7,vB (decide (x1<(p.length:Int))))] [] [] (aU h (fun c1 h=> ?_) (fun c1 h=> ?_)))
 ·refine qk (qs (qb ?_))
  obtain⟨x3,hx3,x4,hx4,h⟩:=d4 h
  refine rq hC [oR rI hx3,oV (nX G hx4)] (fr 10 6) [(15,vB (!x4))] [] [] (aU h (fun c2 h=> ?_) (fun c2 h=> ?_))
  ·obtain rfl:=so h
   exact rq hC [] [2] [(2,vB false)] [] [] (qr eR)
  ·exact qk (rk hC [] [3,8,9] [(3,vI (wr (x1+1)))] [] [] (lE h))
 ·obtain rfl:=so h
  exact dL (rq hC [oN rI p] [2,16,17,18] [(2,vB (decide ((p.length:Int)≤4)))] [] [] (qr eR))
theorem rE{list}{depth}{r}(h:mI n list depth=some r):PQ G 251 [vM aB list,vI depth] (vB r):=by
 unfold mI at h
 refine pq aS Tryz.func251 rfl fun w X hC=> ?_
 refine rq hC [] [4] [] [] [] (qs (rq hC [] [5] [(5,vI 0)] [] [] (qb (kJ h (fun x_=>aZ [(0,vM aB list),(1,vI depth),(5,vI x_)] [] []) lS ?_))))
 rintro again2 x1 h
 refine qs (rq hC [oN aB list] (fr 6 4) [(9,vB (decide (x1<(list.length:Int))))] [] [] (aU h (fun c1 h=> ?_) (fun c1 h=> ?_)))
 ·refine qk (qs (qb (vj h (fun x_=>aZ [(0,vM aB list),(1,vI depth),(5,vI x1),(26,vB x_)] [] []) (fun j3 h=> ?_) (fun x7 h=> ?_))))
  ·
   obtain⟨x4,hx4,x5,hx5,h⟩:=d4 h
   refine aT h (fun c2 h=> ?_) (fun c2 h=> ?_)
   ·obtain⟨x6,hx6,h⟩:=bd h
    exact rk hC ([oR aB hx4,oV (cW G hx5)]++rF 3 c2++[oR aB hx4,oF c2,oF c2,oV (pL G hx6)]++rF 3 c2) (fr 12 15) [(26,vB (decide (depth<x6)))] [] [] (lE h)
   ·exact rk hC ([oR aB hx4,oV (cW G hx5)]++rT 8 c2) (fr 12 15) [(26,vB true)] [] [] (lE h)
  ·refine aU h (fun c3 h=> ?_) (fun c3 h=> ?_)
   ·obtain rfl:=so h
    exact rq hC [] [4] [(4,vB false)] [] [] (qr eR)
   ·exact qk (rk hC [] [5,10,11] [(5,vI (wr (x1+1)))] [] [] (lE h))
 ·refine dL (vj h (fun x_=>aZ [(4,vB x_)] [] []) (fun j8 h=> ?_) (fun x9 h=> ?_))
  ·
   refine aT h (fun c4 h=> ?_) (fun c4 h=> ?_)
   ·exact rk hC ([oN aB list]++rF 4 c4) [4,27,28,29,30,31,32,33,34] [(4,vB false)] [] [] (lE h)
   ·exact rk hC [oN aB list,oT c4,oT c4,oN aB list,oT c4,oT c4] [4,27,28,29,30,31,32,33,34] [(4,vB (decide ((list.length:Int)≤2)))] [] [] (lE h)
  ·obtain rfl:=so h
   exact qr eR
theorem qS{nest}{r}(h:jF n nest=some r):PQ G 211 [vM aD nest] (vB r):=by
 unfold jF at h
 refine pq aS Tryz.func211 rfl fun w X hC=> ?_
 refine rq hC [] [2] [] [] [] (qs (rq hC [] [3] [(3,vI 0)] [] [] (qb (kJ h (fun x_=>aZ [(0,vM aD nest),(3,vI x_)] [] []) lS ?_))))
 rintro again2 x1 h
 refine qs (vj h (fun x_=>aZ [(0,vM aD nest),(3,vI x1),(12,vB x_)] [] []) (fun j3 h=> ?_) (fun x4 h=> ?_))
 ·
  refine aT h (fun c1 h=> ?_) (fun c1 h=> ?_)
  ·exact rk hC ([oN aD nest]++rF 4 c1) (fr 4 9) [(12,vB false)] [] [] (lE h)
  ·exact rk hC [oN aD nest,oT c1,oT c1,oN aD nest,oT c1,oT c1] (fr 4 9) [(12,vB (decide ((nest.length:Int)≤4)))] [] [] (lE h)
 ·refine aU h (fun c2 h=> ?_) (fun c2 h=> ?_)
  ·refine qk (qs (qb (vj h (fun x_=>aZ [(0,vM aD nest),(3,vI x1),(32,vB x_)] [] []) (fun j5 h=> ?_) (fun x9 h=> ?_))))
   ·
    obtain⟨x6,hx6,x7,hx7,h⟩:=d4 h
    refine aT h (fun c3 h=> ?_) (fun c3 h=> ?_)
    ·obtain⟨x8,hx8,h⟩:=bd h
     exact rk hC ([oR aD hx6,oV (rE G hx7)]++rF 3 c3++[oR aD hx6]++rF 4 c3++[oV (rE G hx8),oF c3,oF c3]) (fr 15 18) [(32,vB (!x8))] [] [] (lE h)
    ·exact rk hC ([oR aD hx6,oV (rE G hx7)]++rT 9 c3) (fr 15 18) [(32,vB true)] [] [] (lE h)
   ·refine aU h (fun c4 h=> ?_) (fun c4 h=> ?_)
    ·obtain rfl:=so h
     exact rq hC [] [2] [(2,vB false)] [] [] (qr eR)
    ·exact qk (rk hC [] [3,13,14] [(3,vI (wr (x1+1)))] [] [] (lE h))
  ·obtain rfl:=so h
   exact dL (rq hC [oN aD nest] [2,33,34,35] [(2,vB (decide ((nest.length:Int)≤4)))] [] [] (qr eR))
theorem lK{a}{point}{r}(h:fB n a point=some r):PQ G 258 [V.agg (bC a),vM rI point] (vI r):=by
 unfold fB at h
 refine pq aS Tryz.func258 rfl fun w X hC=> ?_
 refine rq hC [.z (.b (true))] [2,4] [(2,V.tp (bK a))] [] [] (rq hC [] [5,7,8] [(5,vI a.const)] [] [] (qs (rq hC [] [6] [(6,vI 0)] [] [] (qb (kJ h (fun x_=>aZ [(1,vM rI point),(2,V.tp (bK a)),(5,vI x_.1),(6,vI x_.2)] [] []) lS ?_)))))
 rintro again3 ⟨x1,x2⟩ h
 refine qs (vj h (fun x_=>aZ [(1,vM rI point),(2,V.tp (bK a)),(5,vI x1),(6,vI x2),(19,vB x_)] [] []) (fun j4 h=> ?_) (fun x5 h=> ?_))
 ·
  refine aT h (fun c1 h=> ?_) (fun c1 h=> ?_)
  ·exact rk hC ([oN rI point]++rF 6 c1) (fr 9 11) [(19,vB false)] [] [] (lE h)
  ·exact rk hC ([oN rI point]++rT 4 c1++[oN rI a.coefs,oT c1,oT c1]) (fr 9 11) [(19,vB (decide (x2<(a.coefs.length:Int))))] [] [] (lE h)
 ·refine aU h (fun c2 h=> ?_) (fun c2 h=> ?_)
  ·refine qk (qs (qb ?_))
   obtain⟨x6,hx6,x7,hx7,h⟩:=d4 h
   exact dk hC bP [oR rI hx6,oR rI hx7] [5,22,23,24,25,26,27,28,29,30,31,32,33] [(5,vI (wr (x1+(wr (x6*x7)))))] [] [] (rk hC [] [6,20,21] [(6,vI (wr (x2+1)))] [] [] (lE h))
  ·obtain rfl:=so h
   exact dL (rq hC [] [4,34] [(4,vI x1)] [] [] (qr eR))
theorem vR{loop}{p}{r}(h:kK n loop p=some r):PQ G 252 [V.agg (F6 loop),vM rI p] (V.tup [vI r.1,vI r.2]):=by
 unfold kK at h
 refine pq aS Tryz.func252 rfl fun w X hC=> ?_
 refine rq hC [.z (.b (true))] [2,4,5] [(2,V.tp (w3 loop))] [] [] ?_
 obtain⟨x1,hx1,x2,hx2,h⟩:=d4 h
 refine rq hC [oR aB hx1,oV (lK G hx2)] [6,12,13,14,15,16,17] [(6,vI x2)] [] [] ?_
 obtain⟨x3,hx3,x4,hx4,h⟩:=d4 h
 refine rq hC [oR aB hx3,oV (lK G hx4)] [7,18,19,20,21,22,23] [(7,vI x4)] [] [] (qs (rq hC [] [8] [(8,vI 1)] [] [] (qb (kJ h (fun x_=>aZ [(1,vM rI p),(2,V.tp (w3 loop)),(6,vI x_.1),(7,vI x4),(8,vI x_.2)] [] []) lS ?_))))
 rintro again7 ⟨x5,x6⟩ h
 refine qs (rq hC [oN aB loop.lo] (fr 24 5) [(28,vB (decide (x6<(loop.lo.length:Int))))] [] [] (aU h (fun c1 h=> ?_) (fun c1 h=> ?_)))
 ·refine qk (vj h (fun x_=>aZ [(1,vM rI p),(2,V.tp (w3 loop)),(6,vI x_),(7,vI x4),(8,vI x6)] [] []) (fun j8 h=> ?_) (fun x11 h=> ?_))
  ·
   refine qb ?_
   obtain⟨x9,hx9,x10,hx10,h⟩:=d4 h
   refine rq hC [oR aB hx9,oV (lK G hx10)] [9,31,32,33,34,35,36,37] [(9,vI x10)] [] [] (rq hC [] [38,39,40] [(40,vB (decide (x5<x10)))] [] [] (aU h (fun c2 h=> ?_) (fun c2 h=> ?_)))
   ·exact rk hC [] [6,41] [(6,vI x10)] [] [] (lE h)
   ·exact qk (lE h)
  ·exact rk hC [] [8,29,30] [(8,vI (wr (x6+1)))] [] [] (lE h)
 ·refine dL (qs (rq hC [] [10] [(10,vI 1)] [] [] (qb (kJ h (fun x_=>aZ [(1,vM rI p),(2,V.tp (w3 loop)),(6,vI x5),(7,vI x_.1),(10,vI x_.2)] [] []) lS ?_))))
  rintro again14 ⟨x12,x13⟩ h
  refine qs (rq hC [oN aB loop.hi] (fr 42 5) [(46,vB (decide (x13<(loop.hi.length:Int))))] [] [] (aU h (fun c3 h=> ?_) (fun c3 h=> ?_)))
  ·refine qk (vj h (fun x_=>aZ [(1,vM rI p),(2,V.tp (w3 loop)),(6,vI x5),(7,vI x_),(10,vI x13)] [] []) (fun j15 h=> ?_) (fun x18 h=> ?_))
   ·
    refine qb ?_
    obtain⟨x16,hx16,x17,hx17,h⟩:=d4 h
    refine rq hC [oR aB hx16,oV (lK G hx17)] [11,49,50,51,52,53,54,55] [(11,vI x17)] [] [] (rq hC [] [56,57,58] [(58,vB (decide (x17<x12)))] [] [] (aU h (fun c4 h=> ?_) (fun c4 h=> ?_)))
    ·exact rk hC [] [7,59] [(7,vI x17)] [] [] (lE h)
    ·exact qk (lE h)
   ·exact rk hC [] [10,47,48] [(10,vI (wr (x13+1)))] [] [] (lE h)
  ·obtain rfl:=so h
   exact dL (rq hC [] [4,5,60,61] [(4,vI x5),(5,vI x12)] [] [] (qr eR))
theorem aAm(G:GS): ∀(n:Nat) (nest:List Loop) (p:List Int) (most:Int) {r:Int} (h:s_l2Work n nest p most=some r),PQ G 212 [vM aD nest,vM rI p,vI most] (vI r):=by
 intro n
 induction n with
 |zero=>intro nest p most r h;rw [s_l2Work.eq_def] at h;cases h
 |succ n ih=>
  intro nest p most r h
  rw [s_l2Work.eq_def] at h;dsimp only at h
  refine pq aS Tryz.func212 rfl fun w X hC=> ?_
  refine rq hC [] [6] [] [] [] (rq hC [] [7] [(7,vI 1)] [] [] (qs (rq hC [oN rI p,oN aD nest] (fr 11 5) [(15,vB (decide ((p.length:Int)=(nest.length:Int))))] [] [] (aU h (fun c1 h=> ?_) (fun c1 h=> ?_)))))
  ·obtain rfl:=so h
   exact rq hC [] [6,16] [(6,vI 1)] [] [] (qr eR)
  ·refine qk ?_
   obtain⟨x1,hx1,x2,hx2,h⟩:=d4 h
   refine rq hC [oN rI p,oR aD hx1,oV (vR G hx2)] [8,9,17,18,19,20,21,22,23,24,25,26] [(8,vI x2.1),(9,vI x2.2)] [] [] (qs (rq hC [] [10,27] [(10,vI x2.1)] [] [] (qb (kJ h (fun x_=>aZ [(0,vM aD nest),(1,vM rI p),(2,vI most),(7,vI x_.1),(9,vI x2.2),(10,vI x_.2)] [] []) lS ?_))))
   rintro again5 ⟨x3,x4⟩ h
   refine qs (vj h (fun x_=>aZ [(0,vM aD nest),(1,vM rI p),(2,vI most),(7,vI x3),(9,vI x2.2),(10,vI x4),(35,vB x_)] [] []) (fun j6 h=> ?_) (fun x7 h=> ?_))
   ·
    refine aT h (fun c2 h=> ?_) (fun c2 h=> ?_)
    ·exact rk hC (rF 4 c2) (fr 28 8) [(35,vB false)] [] [] (lE h)
    ·exact rk hC (rT 4 c2) (fr 28 8) [(35,vB (decide (x3≤most)))] [] [] (lE h)
   ·refine aU h (fun c3 h=> ?_) (fun c3 h=> ?_)
    ·refine qk (qs (qb ?_))
     obtain⟨x8,hx8,x9,hx9,x10,hx10,h⟩:=kQ h
     exact rk hC [.z (.nat 20),oA (aM rI hx8),.z (.int 0),oQ (bZ (r:=rI) 1 (fun _=>rfl) []),oQ (bZ (r:=rI) 1 (fun _=>rfl) p),oA (aM rI hx9),.z (.b (true)),oQ (bZ (r:=rI) 1 (fun _=>rfl) x8),oQ (bZ (r:=rI) 1 (fun _=>rfl) [x4]),oV (ih nest x9 (wr (most-x3)) hx10)] [7,38,39,40,41,42,43,44,45,46,47,48,49,50] [(7,vI (wr (x3+x10)))] [(20,some (ar 3 3 1 rI x9))] [(20,true)] (rk hC [] [10,36,37] [(10,vI (wr (x4+1)))] [] [] (lE h))
    ·obtain rfl:=so h
     exact dL (rq hC [] [6,51] [(6,vI x3)] [] [] (qr eR))
theorem tE(G:GS): ∀(n:Nat) (out:List (List Int)) (outG:Nat) (nest:List Loop) (p:List Int) {r:(List (List Int))} (h:s_l2Points n out nest p=some r),VQ G 213 [ar 33 outG 1 (rL rI) out] [ms 0 outG 1 (rL rI) out,vM aD nest,vM rI p] (ms 0 (outG+1) 1 (rL rI) r) [ar 33 (outG+1) 1 (rL rI) r]:=by
 intro n
 induction n with
 |zero=>intro out outG nest p r h;rw [s_l2Points.eq_def] at h;cases h
 |succ n ih=>
  intro out outG nest p r h
  rw [s_l2Points.eq_def] at h;dsimp only at h
  refine vq aS Tryz.func213 rfl fun w X β0 hC hg=> ?_
  refine rq hC [] [6] [] [] [] (qs (rq hC [oN rI p,oN aD nest] (fr 10 5) [(14,vB (decide ((p.length:Int)=(nest.length:Int))))] [] [] (aU h (fun c1 h=> ?_) (fun c1 h=> ?_))))
  ·obtain⟨x1,hx1,x2,hx2,h⟩:=d4 h
   obtain rfl:=so h
   exact rq hC [.z (.nat 20),oA (aM rI hx1),.z (.at 3),.z (.fz 20 [18] []),.z (.int 0),oQ (bZ (r:=rI) 1 (fun _=>rfl) []),oQ (bZ (r:=rI) 1 (fun _=>rfl) p),oA (aM (rL rI) hx2),oQ (bZ (r:=(rL rI)) 1 (fun _=>rfl) out),oQ (bZ (r:=(rL rI)) 1 (fun _=>rfl) [x1])] [0,6,15,16,17,18,19,20] [(6,ms 0 (outG+1) 1 (rL rI) x2)] [(20,none),(0,some (ar 33 (outG+1) 1 (rL rI) x2))] [(20,true)] (qw (pQ 6 0 outG (outG+1) 1 0 (List.map (rL rI) x2).length (e:= .arr 33 (outG+1) 1 (List.map (rL rI) x2)) rfl (by kernel_rfl) (by kernel_rfl) rfl rfl hg.1) (qr eW))
  ·refine qk ?_
   obtain⟨x3,hx3,x4,hx4,h⟩:=d4 h
   refine rq hC [oN rI p,oR aD hx3,oV (vR G hx4)] [7,8,21,22,23,24,25,26,27,28,29,30] [(7,vI x4.1),(8,vI x4.2)] [] [] (qs (rq hC [] [9,31] [(9,vI x4.1)] [] [] (qb (bM (γ:=Nat) h (fun x_ g_=>aZ [(0,ms 0 g_ 1 (rL rI) x_.1),(1,vM aD nest),(2,vM rI p),(8,vI x4.2),(9,vI x_.2)] [(0,ar 33 g_ 1 (rL rI) x_.1)] [0]) outG (lS) ?_))))
   rintro again8 ⟨x5,x6⟩ g7 h
   refine qs (vj h (fun x_=>aZ [(0,ms 0 g7 1 (rL rI) x5),(1,vM aD nest),(2,vM rI p),(8,vI x4.2),(9,vI x6),(39,vB x_)] [(0,ar 33 g7 1 (rL rI) x5)] [0]) (fun j9 h=> ?_) (fun x10 h=> ?_))
   ·
    refine aT h (fun c2 h=> ?_) (fun c2 h=> ?_)
    ·exact rk hC (rF 4 c2) (fr 32 8) [(39,vB false)] [] [] (lE h)
    ·exact rk hC [oT c2,oT c2,oN (rL rI) x5,oT c2,oT c2] (fr 32 8) [(39,vB (decide ((x5.length:Int)≤120)))] [] [] (lE h)
   ·refine aU h (fun c3 h=> ?_) (fun c3 h=> ?_)
    ·refine qk (qs (qb ?_))
     obtain⟨x11,hx11,x12,hx12,x13,hx13,h⟩:=kQ h
     exact rk hC [.z (.nat 20),oA (aM rI hx11),.z (.int 0),oQ (bZ (r:=rI) 1 (fun _=>rfl) []),oQ (bZ (r:=rI) 1 (fun _=>rfl) p),oA (aM rI hx12),.z (.at 2),.z (.fz 20 [49] []),oQ (bZ (r:=rI) 1 (fun _=>rfl) x11),oQ (bZ (r:=rI) 1 (fun _=>rfl) [x6]),oC [0] [] (ih x5 g7 nest x12 hx13)] [0,42,43,44,45,46,47,48,49,50] [(0,ms 0 (g7+1) 1 (rL rI) x13)] [(20,none),(0,some (ar 33 (g7+1) 1 (rL rI) x13))] [(20,true),(0,true)] (rk hC [] [9,40,41] [(9,vI (wr (x6+1)))] [] [] ⟨(x13,wr (x6+1)),(g7+1),h,lS⟩)
    ·obtain rfl:=so h
     exact dL (rq hC [] [6,51] [(6,ms 0 g7 1 (rL rI) x5)] [] [] (qw (pQ 6 0 outG g7 1 0 (List.map (rL rI) x5).length (e:= .arr 33 g7 1 (List.map (rL rI) x5)) rfl (by kernel_rfl) (by kernel_rfl) rfl rfl hg.1) (qr eW)))
theorem zM{nest}{r}(h:gU n nest=some r):VQ G 157 [] [vM aD nest] (V.tup [ms 0 1 1 (rL rI) r.1,vB r.2]) [ar 33 1 1 (rL rI) r.1]:=by
 unfold gU at h
 refine vq aS Tryz.func157 rfl fun w X β0 hC hg=> ?_
 refine rq hC [] [2,3] [] [] [] (qs (vj h (fun x_=>aZ [(0,vM aD nest),(12,vB x_)] [] []) (fun j1 h=> ?_) (fun x4 h=> ?_)))
 ·
  obtain⟨x2,hx2,h⟩:=bd h
  refine aT h (fun c1 h=> ?_) (fun c1 h=> ?_)
  ·obtain⟨x3,hx3,h⟩:=bd h
   exact rk hC [oV (qS G hx2),oF c1,oF c1,oV (aAm G n nest [] 1200 hx3),oF c1,oF c1] (fr 5 8) [(12,vB (decide ((1200:Int)<x3)))] [] [] (lE h)
  ·exact rk hC ([oV (qS G hx2)]++rT 4 c1) (fr 5 8) [(12,vB true)] [] [] (lE h)
 ·refine aU h (fun c2 h=> ?_) (fun c2 h=> ?_)
  ·obtain rfl:=so h
   exact rq hC [.z (.nat 20)] [2,3,13] [(2,ms 20 1 1 (rL rI) []),(3,vB false)] [(20,some (ar 33 1 1 (rL rI) []))] [(20,true)] (qw (lk hC [.ren 2 20 0] [2] [(2,ms 0 1 1 (rL rI) [])] [(0,some (ar 33 1 1 (rL rI) [])),(20,none)] [(0,true)]) (qr eW))
  ·refine qk ?_
   obtain⟨x5,hx5,h⟩:=bd h
   refine rq hC [.z (.nat 20),oC [20] [] (tE G n [] 1 nest [] hx5)] [4,14,15,16] [(4,ms 20 2 1 (rL rI) x5)] [(20,some (ar 33 2 1 (rL rI) x5))] [(20,true),(20,true)] (qs (rq hC [oN (rL rI) x5] [17,18,19] [(19,vB (decide ((120:Int)<(x5.length:Int))))] [] [] (aU h (fun c3 h=> ?_) (fun c3 h=> ?_))))
   ·obtain rfl:=so h
    exact rq hC [.z (.nat 21)] [2,3,20] [(2,ms 21 1 1 (rL rI) []),(3,vB false)] [(21,some (ar 33 1 1 (rL rI) []))] [(21,true)] (qw (lk hC [.ren 2 21 0] [2] [(2,ms 0 1 1 (rL rI) [])] [(0,some (ar 33 1 1 (rL rI) [])),(21,none)] [(0,true)]) (qr eW))
   ·obtain rfl:=so h
    exact qk (rq hC [] [2,3,21] [(2,ms 20 2 1 (rL rI) x5),(3,vB true)] [] [] (qw (lk hC [.ren 2 20 0] [2] [(2,ms 0 1 1 (rL rI) x5)] [(0,some (ar 33 1 1 (rL rI) x5)),(20,none)] [(0,true)]) (qr eW)))
theorem R9(G:GS): ∀(n:Nat) (out:List Access) (outG:Nat) (e:Expr) {r:(List Access)} (h:s_l3Reads n out e=some r),VQ G 217 [ar 82 outG 2 aN out] [ms 0 outG 2 aN out,V.agg (f0 e)] (ms 0 (outG+1) 2 aN r) [ar 82 (outG+1) 2 aN r]:=by
 intro n
 induction n with
 |zero=>intro out outG e r h;rw [s_l3Reads.eq_def] at h;cases h
 |succ n ih=>
  intro out outG e r h
  rw [s_l3Reads.eq_def] at h;dsimp only at h
  refine vq aS Tryz.func217 rfl fun w X β0 hC hg=> ?_
  refine rq hC [.z (.b (true))] [3,4] [(3,V.tp (iE e))] [] [] ?_
  obtain⟨j1,hj1,h⟩:=yG h
  refine jM (γ:=Nat) (j:=j1) (r:=r) (fun x_ g_=>aZ [(0,ms 0 g_ 2 aN x_),(3,V.tp (iE e))] [(0,ar 82 g_ 2 aN x_)] [0]) ?_ ?_
  ·
   refine rq hC [] [6,7,8] [(8,vB (decide (e.kind=3)))] [] [] (aU h (fun c1 h=> ?_) (fun c1 h=> ?_))
   ·obtain⟨x2,hx2,x3,hx3,h⟩:=d4 h
    exact rk hC [oC [] [20] (iV G hx2),.z (.at 3),.z (.fz 20 [12] []),.z (.int 0),oA (aM aN hx3),oQ (bZ (r:=aN) 2 lT out),oQ (bZ (r:=aN) 2 lT [x2])] [0,9,10,11,12,13,14] [(0,ms 0 (outG+1) 2 aN x3)] [(20,none),(0,some (ar 82 (outG+1) 2 aN x3))] [(20,true)] ⟨x3,(outG+1),h,lS⟩
   ·exact qk ⟨out,outG,h,lS⟩
  ·rintro x4 g5 h
   subst hj1
   refine qs (rq hC [] [5] [(5,vI 0)] [] [] (qb (bM (γ:=Nat) h (fun x_ g_=>aZ [(0,ms 0 g_ 2 aN x_.1),(3,V.tp (iE e)),(5,vI x_.2)] [(0,ar 82 g_ 2 aN x_.1)] [0]) g5 (lS) ?_)))
   rintro again9 ⟨x6,x7⟩ g8 h
   refine qs (rq hC [oN aL e.kids] (fr 15 5) [(19,vB (decide (x7<(e.kids.length:Int))))] [] [] (aU h (fun c2 h=> ?_) (fun c2 h=> ?_)))
   ·refine qk (qs (qb ?_))
    obtain⟨x10,hx10,x11,hx11,h⟩:=d4 h
    exact rk hC [.z (.row (fD x10)),oQ (iZ aL hx10 (eA x10)),oC [0] [] (ih x6 g8 x10 hx11)] [0,22,23,24,25,26,27,28] [(0,ms 0 (g8+1) 2 aN x11)] [(0,some (ar 82 (g8+1) 2 aN x11))] [(0,true)] (rk hC [] [5,20,21] [(5,vI (wr (x7+1)))] [] [] ⟨(x11,wr (x7+1)),(g8+1),h,lS⟩)
   ·obtain rfl:=so h
    exact dL (rq hC [] [4,29] [(4,ms 0 g8 2 aN x6)] [] [] (qw (pQ 4 0 outG g8 2 0 (List.map aN x6).length (e:= .arr 82 g8 2 (List.map aN x6)) rfl (by kernel_rfl) (by kernel_rfl) rfl rfl hg.1) (qr eW)))
theorem aAg{a}{r}(h:oZ n a=some r):PQ G 257 [V.agg [vS a.name,vM rI a.dims]] (vI r):=by
 unfold oZ at h
 refine pq aS Tryz.func257 rfl fun w X hC=> ?_
 refine rq hC [.z (.b (true))] [1,2] [(1,V.tp [T.str a.name,T.sl (List.map rI a.dims)])] [] [] (rq hC [] [3] [(3,vI 1)] [] [] (qs (rq hC [] [4] [(4,vI 0)] [] [] (qb (kJ h (fun x_=>aZ [(1,V.tp [T.str a.name,T.sl (List.map rI a.dims)]),(3,vI x_.1),(4,vI x_.2)] [] []) lS ?_)))))
 rintro again3 ⟨x1,x2⟩ h
 refine qs (rq hC [oN rI a.dims] (fr 5 5) [(9,vB (decide (x2<(a.dims.length:Int))))] [] [] (aU h (fun c1 h=> ?_) (fun c1 h=> ?_)))
 ·refine qk (qs (qb ?_))
  obtain⟨x4,hx4,h⟩:=bd h
  exact rk hC [oR rI hx4] [3,12,13,14,15,16,17,18] [(3,vI (wr (x1*x4)))] [] [] (rk hC [] [4,10,11] [(4,vI (wr (x2+1)))] [] [] (lE h))
 ·obtain rfl:=so h
  exact dL (rq hC [] [2,19] [(2,vI x1)] [] [] (qr eR))
theorem zD{list}{a}{point}{r}(h:mH n list a point=some r):PQ G 218 [vM aI list,V.agg (dX a),vM rI point] (vI r):=by
 unfold mH at h
 refine pq aS Tryz.func218 rfl fun w X hC=> ?_
 refine rq hC [.z (.b (true))] [4,6] [(4,V.tp (d5 a))] [] [] (rq hC [] [7] [(7,vI 0)] [] [] (qs (rq hC [] [8] [(8,vI 0)] [] [] (qb (kJ h (fun x_=>aZ [(0,vM aI list),(2,vM rI point),(4,V.tp (d5 a)),(7,vI x_.1),(8,vI x_.2)] [] []) lS ?_)))))
 rintro again3 ⟨x1,x2⟩ h
 refine qs (rq hC [oN aI list] (fr 12 4) [(15,vB (decide (x2<(list.length:Int))))] [] [] (aU h (fun c1 h=> ?_) (fun c1 h=> ?_)))
 ·refine qk (qs (qb (qs (qs ?_))))
  obtain⟨x4,hx4,h⟩:=bd h
  refine dk hC bP [oR aI hx4] (fr 18 8) [(25,vB (!decide (x4.name=a.array)))] [] [] (aU h (fun c2 h=> ?_) (fun c2 h=> ?_))
  ·obtain⟨x5,hx5,h⟩:=bd h
   exact rq hC [oR aI hx4,oV (aAg G hx5)] [7,26,27,28,29,30,31,32] [(7,vI (wr (x1+x5)))] [] [] (dL (rk hC [] [8,16,17] [(8,vI (wr (x2+1)))] [] [] (lE h)))
  ·refine qk (rq hC [] [9] [(9,vI 0)] [] [] (qs (rq hC [] [10] [(10,vI 0)] [] [] (qb (kJ h (fun x_=>aZ [(0,vM aI list),(2,vM rI point),(4,V.tp (d5 a)),(7,vI x1),(8,vI x2),(9,vI x_.1),(10,vI x_.2)] [] []) lS ?_)))))
   rintro again8 ⟨x6,x7⟩ h
   refine qs (rq hC [oN aB a.subs] (fr 33 5) [(37,vB (decide (x7<(a.subs.length:Int))))] [] [] (aU h (fun c3 h=> ?_) (fun c3 h=> ?_)))
   ·refine qk (qs (qb (qs (qs (dk hC bP [oN aB a.subs,oR aI hx4,oN rI x4.dims] (fr 40 10) [(49,vB (!decide ((a.subs.length:Int)=(x4.dims.length:Int))))] [] [] ?_)))))
    refine aU h (fun c4 h=> ?_) (fun c4 h=> ?_)
    ·obtain rfl:=so h
     exact rq hC [] [6] [(6,vI (-1))] [] [] (qr eR)
    ·refine qk ?_
     obtain⟨x9,hx9,x10,hx10,h⟩:=d4 h
     refine rq hC [oR aB hx9,oV (lK G hx10)] [11,50,51,52,53,54,55,56] [(11,vI x10)] [] [] (qs (vj h (fun x_=>aZ [(0,vM aI list),(2,vM rI point),(4,V.tp (d5 a)),(7,vI x1),(8,vI x2),(9,vI x6),(10,vI x7),(11,vI x10),(70,vB x_)] [] []) (fun j11 h=> ?_) (fun x13 h=> ?_)))
     ·
      refine aT h (fun c5 h=> ?_) (fun c5 h=> ?_)
      ·obtain⟨x12,hx12,h⟩:=bd h
       exact rk hC (rF 4 c5++[oR aI hx4]++rF 4 c5++[oR rI hx12]++rF 3 c5) (fr 57 14) [(70,vB (decide (x12≤x10)))] [] [] (lE h)
      ·exact rk hC (rT 11 c5) (fr 57 14) [(70,vB true)] [] [] (lE h)
     ·refine aU h (fun c6 h=> ?_) (fun c6 h=> ?_)
      ·obtain rfl:=so h
       exact rq hC [] [6] [(6,vI (-1))] [] [] (qr eR)
      ·refine qk ?_
       obtain⟨x14,hx14,h⟩:=bd h
       exact rk hC [oR aI hx4,oR rI hx14] [9,71,72,73,74,75,76,77,78,79,80,81,82] [(9,vI (wr ((wr (x6*x14))+x10)))] [] [] (rk hC [] [10,38,39] [(10,vI (wr (x7+1)))] [] [] (lE h))
   ·obtain rfl:=so h
    exact dL (rq hC [] [6,83,84,85] [(6,vI (wr (x1+x6)))] [] [] (qr eR))
 ·obtain rfl:=so h
  exact dL (rq hC [] [6] [(6,vI (-1))] [] [] (qr eR))
theorem vO{list}{s}{point}{r}(h:iH n list s point=some r):VQ G 159 [] [vM aI list,V.agg (fU s),vM rI point] (V.tup [ms 0 1 1 rI r.1,vI r.2.1,vB r.2.2]) [ar 3 1 1 rI r.1]:=by
 unfold iH at h
 refine vq aS Tryz.func159 rfl fun w X β0 hC hg=> ?_
 refine rq hC [.z (.b (true))] [4,6,7,8] [(4,V.tp (qK s))] [] [] (rq hC [.z (.nat 20)] [9,14] [(9,ms 20 1 1 rI [])] [(20,some (ar 3 1 1 rI []))] [(20,true)] ?_)
 obtain⟨x1,hx1,h⟩:=bd h
 refine rq hC [.z (.nat 21),oC [21] [] (R9 G n [] 1 s.value hx1)] [10,15,16,17,18] [(10,ms 21 2 2 aN x1)] [(21,some (ar 82 2 2 aN x1))] [(21,true),(21,true)] (qs (rq hC [] [11] [(11,vI 0)] [] [] (qb (bM (γ:=Nat) h (fun x_ g_=>aZ [(0,vM aI list),(2,vM rI point),(4,V.tp (qK s)),(9,ms 20 g_ 1 rI x_.1),(10,ms 21 2 2 aN x1),(11,vI x_.2)] [(20,ar 3 g_ 1 rI x_.1),(21,ar 82 2 2 aN x1)] [20,21]) 1 (lS) ?_))))
 rintro again5 ⟨x2,x3⟩ g4 h
 refine qs (rq hC [oN aN x1] (fr 19 4) [(22,vB (decide (x3<(x1.length:Int))))] [] [] (aU h (fun c1 h=> ?_) (fun c1 h=> ?_)))
 ·refine qk (qs (qb ?_))
  obtain⟨x6,hx6,x7,hx7,h⟩:=d4 h
  refine rq hC [oQ (lO aN hx6),oX aN hx6,oV (zD G hx7)] [12,25,26,27,28,29,30,31] [(12,vI x7)] [] [] (qs (rq hC [] [32,33] [(33,vB (decide (x7<0)))] [] [] (aU h (fun c2 h=> ?_) (fun c2 h=> ?_))))
  ·obtain rfl:=so h
   exact rq hC [.z (.nat 22)] [6,7,8,34] [(6,ms 22 1 1 rI []),(7,vI 0),(8,vB false)] [(22,some (ar 3 1 1 rI []))] [(22,true)] (qw (lk hC [.ren 6 22 0] [6] [(6,ms 0 1 1 rI [])] [(0,some (ar 3 1 1 rI [])),(22,none)] [(0,true)]) (qr eW))
  ·refine qk ?_
   obtain⟨x8,hx8,h⟩:=bd h
   exact rk hC [.z (.int 0),oA (aM rI hx8),oQ (bZ (r:=rI) 1 (fun _=>rfl) x2),oQ (bZ (r:=rI) 1 (fun _=>rfl) [x7])] [9,35,36,37,38] [(9,ms 20 (g4+1) 1 rI x8)] [(20,some (ar 3 (g4+1) 1 rI x8))] [] (rk hC [] [11,23,24] [(11,vI (wr (x3+1)))] [] [] ⟨(x8,wr (x3+1)),(g4+1),h,lS⟩)
 ·refine dL ?_
  obtain⟨x9,hx9,h⟩:=bd h
  refine rq hC [oV (zD G hx9)] [13,39,40,41,42,43] [(13,vI x9)] [] [] (qs (rq hC [] [44,45] [(45,vB (decide (x9<0)))] [] [] (aU h (fun c3 h=> ?_) (fun c3 h=> ?_))))
  ·obtain rfl:=so h
   exact rq hC [.z (.nat 22)] [6,7,8,46] [(6,ms 22 1 1 rI []),(7,vI 0),(8,vB false)] [(22,some (ar 3 1 1 rI []))] [(22,true)] (qw (lk hC [.ren 6 22 0] [6] [(6,ms 0 1 1 rI [])] [(0,some (ar 3 1 1 rI [])),(22,none)] [(0,true)]) (qr eW))
  ·obtain rfl:=so h
   exact qk (rq hC [] [6,7,8,47,48] [(6,ms 20 g4 1 rI x2),(7,vI x9),(8,vB true)] [] [] (qw (lk hC [.ren 6 20 0] [6] [(6,ms 0 1 1 rI x2)] [(0,some (ar 3 1 1 rI x2)),(20,none)] [(0,true)]) (qr eW)))
theorem rD{list}{part}{r}(h:kU n list part=some r):PQ G 118 [vM aI list,V.agg (aFf part)] (V.tup [vI r.1,vB r.2]):=by
 unfold kU at h
 refine pq aS Tryz.func118 rfl fun w X hC=> ?_
 refine rq hC [.z (.b (true))] [3,4,5] [(3,V.tp (oK part))] [] [] ?_
 obtain⟨x1,hx1,h⟩:=bd h
 refine rq hC [oC [] [20] (zM G hx1)] [6,7,13,14,15,16,17,18] [(6,ms 20 1 1 (rL rI) x1.1),(7,vB x1.2)] [(20,some (ar 33 1 1 (rL rI) x1.1))] [(20,true)] (qs (vj h (fun x_=>aZ [(0,vM aI list),(3,V.tp (oK part)),(6,ms 20 1 1 (rL rI) x1.1),(32,vB x_)] [(20,ar 33 1 1 (rL rI) x1.1)] [20]) (fun j2 h=> ?_) (fun x3 h=> ?_)))
 ·
  refine aT h (fun c1 h=> ?_) (fun c1 h=> ?_)
  ·refine aT h (fun c2 h=> ?_) (fun c2 h=> ?_)
   ·exact rk hC (rF 3 c1++[oN aR part.body,oF c1,oF c1]++rF 3 c2++[oN aR part.body,oF c2,oF c2]) (fr 19 14) [(32,vB (decide ((4:Int)<(part.body.length:Int))))] [] [] (lE h)
   ·exact rk hC (rF 3 c1++[oN aR part.body,oF c1,oF c1]++rT 5 c2) (fr 19 14) [(32,vB true)] [] [] (lE h)
  ·exact rk hC (rT 5 c1++sT 5) (fr 19 14) [(32,vB true)] [] [] (lE h)
 ·refine aU h (fun c3 h=> ?_) (fun c3 h=> ?_)
  ·obtain rfl:=so h
   exact rq hC [] [4,5] [(4,vI 0),(5,vB false)] [] [] (qr eR)
  ·refine qk (qs (rq hC [] [8] [(8,vI 0)] [] [] (qb (kJ h (fun x_=>aZ [(0,vM aI list),(3,V.tp (oK part)),(6,ms 20 1 1 (rL rI) x1.1),(8,vI x_)] [(20,ar 33 1 1 (rL rI) x1.1)] [20]) lS ?_))))
   rintro again5 x4 h
   refine qs (rq hC [oN aR part.body] (fr 33 5) [(37,vB (decide (x4<(part.body.length:Int))))] [] [] (aU h (fun c4 h=> ?_) (fun c4 h=> ?_)))
   ·refine qk (qs (qb (qs (qs ?_))))
    obtain⟨x6,hx6,x7,hx7,h⟩:=d4 h
    refine dk hC bP [oR aR hx6,oN aD part.nest,oV (l9 G hx7)] (fr 40 10) [(49,vB (!x7))] [] [] (aU h (fun c5 h=> ?_) (fun c5 h=> ?_))
    ·obtain rfl:=so h
     exact rq hC [] [4,5] [(4,vI 0),(5,vB false)] [] [] (qr eR)
    ·refine qk (rq hC [] [9] [(9,vI 0)] [] [] (qb (kJ h (fun x_=>aZ [(0,vM aI list),(3,V.tp (oK part)),(6,ms 20 1 1 (rL rI) x1.1),(8,vI x4),(9,vI x_)] [(20,ar 33 1 1 (rL rI) x1.1)] [20]) lS ?_)))
     rintro again9 x8 h
     refine qs (rq hC [oN (rL rI) x1.1] (fr 50 4) [(53,vB (decide (x8<(x1.1.length:Int))))] [] [] (aU h (fun c6 h=> ?_) (fun c6 h=> ?_)))
     ·refine qk (qs (qb (qs ?_)))
      obtain⟨x10,hx10,x11,hx11,h⟩:=d4 h
      refine dk hC bP [oR aR hx6,oQ (lO (rL rI) hx10),oX (rL rI) hx10,oC [] [21] (vO G hx11)] [10,11,12,56,57,58,59,60,61,62,63,64,65,66,67,68,69,70] [(12,vB x11.2.2)] [(21,some (ar 3 1 1 rI x11.1))] [(21,true)] (vj h (fun x_=>aZ [(0,vM aI list),(3,V.tp (oK part)),(6,ms 20 1 1 (rL rI) x1.1),(8,vI x4),(9,vI x8),(80,vB x_)] [(20,ar 33 1 1 (rL rI) x1.1),(21,ar 3 1 1 rI x11.1)] [20,21]) (fun j12 h=> ?_) (fun x14 h=> ?_))
      ·
       refine aT h (fun c7 h=> ?_) (fun c7 h=> ?_)
       ·obtain⟨x13,hx13,h⟩:=bd h
        exact rk hC (rF 3 c7++[oQ (lO (rL rI) hx10),oF c7,oX (rL rI) hx10,oF c7,oV (S4 G hx13),oF c7,oF c7]) (fr 71 10) [(80,vB (!x13))] [] [] (lE h)
       ·exact rk hC (rT 7 c7) (fr 71 10) [(80,vB true)] [] [] (lE h)
      ·refine aU h (fun c8 h=> ?_) (fun c8 h=> ?_)
       ·obtain rfl:=so h
        exact rq hC [] [4,5] [(4,vI 0),(5,vB false)] [] [] (qr eR)
       ·exact qk (rk hC [] [9,54,55] [(9,vI (wr (x8+1)))] [] [] (lE h))
     ·exact dL (rk hC [] [8,38,39] [(8,vI (wr (x4+1)))] [] [] (lE h))
   ·obtain rfl:=so h
    exact dL (rq hC [oN (rL rI) x1.1,oN aR part.body] [4,5,81,82,83,84,85,86] [(4,vI (wr ((x1.1.length:Int)*(part.body.length:Int)))),(5,vB true)] [] [] (qr eR))
theorem fR{p}{r}(h:cE n p=some r):PQ G 71 [V.agg (cO p)] (vB r):=by
 unfold cE at h
 refine pq aS Tryz.func71 rfl fun w X hC=> ?_
 refine rq hC [.z (.b (true))] [1,2] [(1,V.tp (cD p))] [] [] (qs (vj h (fun x_=>aZ [(1,V.tp (cD p)),(16,vB x_)] [] []) (fun j1 h=> ?_) (fun x3 h=> ?_)))
 ·
  obtain⟨x2,hx2,h⟩:=bd h
  refine aT h (fun c1 h=> ?_) (fun c1 h=> ?_)
  ·exact rk hC ([oV (tD G hx2)]++rF 3 c1++[oN aF p.parts,oF c1,oF c1]) (fr 7 10) [(16,vB (decide ((4:Int)<(p.parts.length:Int))))] [] [] (lE h)
  ·exact rk hC ([oV (tD G hx2)]++rT 5 c1) (fr 7 10) [(16,vB true)] [] [] (lE h)
 ·refine aU h (fun c2 h=> ?_) (fun c2 h=> ?_)
  ·obtain rfl:=so h
   exact rq hC [] [2] [(2,vB false)] [] [] (qr eR)
  ·refine qk (rq hC [] [3] [(3,vI 0)] [] [] (qs (rq hC [] [4] [(4,vI 0)] [] [] (qb (kJ h (fun x_=>aZ [(1,V.tp (cD p)),(3,vI x_.1),(4,vI x_.2)] [] []) lS ?_)))))
   rintro again6 ⟨x4,x5⟩ h
   refine qs (rq hC [oN aF p.parts] (fr 17 5) [(21,vB (decide (x5<(p.parts.length:Int))))] [] [] (aU h (fun c3 h=> ?_) (fun c3 h=> ?_)))
   ·refine qk (qs (qb (qs ?_)))
    obtain⟨x7,hx7,x8,hx8,h⟩:=d4 h
    refine dk hC bP [oR aF hx7,oV (rD G hx8)] [5,6,24,25,26,27,28,29,30,31,32,33,34] [(5,vI x8.1),(6,vB x8.2)] [] [] (qs (rq hC [] [35,36] [(36,vB (!x8.2))] [] [] (aU h (fun c4 h=> ?_) (fun c4 h=> ?_))))
    ·obtain rfl:=so h
     exact rq hC [] [2] [(2,vB false)] [] [] (qr eR)
    ·exact qk (rk hC [] [3,37,38,39] [(3,vI (wr (x4+x8.1)))] [] [] (rk hC [] [4,22,23] [(4,vI (wr (x5+1)))] [] [] (lE h)))
   ·obtain rfl:=so h
    exact dL (rq hC [] [2,40,41] [(2,vB (decide (x4≤120)))] [] [] (qr eR))
theorem aAn{nest}{r}(h:xB n nest=some r):PQ G 208 [vM aD nest] (vS r):=by
 unfold xB at h
 refine pq aS Tryz.func208 rfl fun w X hC=> ?_
 refine rq hC [] [2] [] [] [] (rq hC [] [3] [(3,vS [])] [] [] (qs (rq hC [] [4] [(4,vI 0)] [] [] (qb (kJ h (fun x_=>aZ [(0,vM aD nest),(3,vS x_.1),(4,vI x_.2)] [] []) lS ?_)))))
 rintro again3 ⟨x1,x2⟩ h
 refine qs (rq hC [oN aD nest] (fr 5 4) [(8,vB (decide (x2<(nest.length:Int))))] [] [] (aU h (fun c1 h=> ?_) (fun c1 h=> ?_)))
 ·refine qk (qs (qb ?_))
  obtain⟨x4,hx4,x5,hx5,x6,hx6,h⟩:=kQ h
  obtain⟨x7,hx7,x8,hx8,x9,hx9,h⟩:=kQ h
  obtain⟨x10,hx10,x11,hx11,h⟩:=d4 h
  exact dk hC bP [oS hx4,oR aD hx5,oV (lJ G hx6),oS hx7,oS hx8,oR aD hx5,oV (lJ G hx9),oS hx10,oS hx11] [3,11,12,13,14,15,16,17,18,19,20,21,22,23,24,25,26,27,28] [(3,vS x11)] [] [] (rk hC [] [4,9,10] [(4,vI (wr (x2+1)))] [] [] (lE h))
 ·obtain rfl:=so h
  exact dL (rq hC [] [2,29] [(2,vS x1)] [] [] (qr eR))
theorem tH{p}{r}(h:jP n p=some r):PQ G 156 [V.agg (cO p)] (vS r):=by
 unfold jP at h
 refine pq aS Tryz.func156 rfl fun w X hC=> ?_
 refine rq hC [.z (.b (true))] [1,2] [(1,V.tp (cD p))] [] [] (qs ?_)
 obtain⟨x1,hx1,h⟩:=bd h
 refine rq hC [oV (fR G hx1)] [9,10,11] [(11,vB (!x1))] [] [] (aU h (fun c1 h=> ?_) (fun c1 h=> ?_))
 ·obtain rfl:=so h
  exact rq hC [] [2] [(2,vS [])] [] [] (qr eR)
 ·refine qk (rq hC [] [3] [(3,vS [112,114,111,103,114,97,109,10])] [] [] (qs (rq hC [] [4] [(4,vI 0)] [] [] (qb (kJ h (fun x_=>aZ [(1,V.tp (cD p)),(3,vS x_.1),(4,vI x_.2)] [] []) lS ?_)))))
  rintro again4 ⟨x2,x3⟩ h
  refine qs (rq hC [oN aI p.arrays] (fr 12 5) [(16,vB (decide (x3<(p.arrays.length:Int))))] [] [] (aU h (fun c2 h=> ?_) (fun c2 h=> ?_)))
  ·refine qk (qs (qb ?_))
   obtain⟨x5,hx5,x6,hx6,x7,hx7,h⟩:=kQ h
   refine rq hC [oS hx5,oR aI hx6,oS hx7] [3,19,20,21,22,23,24,25,26,27] [(3,vS x7)] [] [] (qs (rq hC [] [5] [(5,vI 0)] [] [] (qb (kJ h (fun x_=>aZ [(1,V.tp (cD p)),(3,vS x_.1),(4,vI x3),(5,vI x_.2)] [] []) lS ?_))))
   rintro again10 ⟨x8,x9⟩ h
   refine qs (rq hC [oR aI hx6,oN rI x6.dims] (fr 28 9) [(36,vB (decide (x9<(x6.dims.length:Int))))] [] [] (aU h (fun c3 h=> ?_) (fun c3 h=> ?_)))
   ·refine qk (qs (qb ?_))
    obtain⟨x11,hx11,x12,hx12,x13,hx13,h⟩:=kQ h
    obtain⟨x14,hx14,h⟩:=bd h
    exact rk hC [oS hx11,oR aI hx6,oR rI hx12,oV (nY G n x12 hx13),oS hx14] [3,39,40,41,42,43,44,45,46,47,48,49,50,51] [(3,vS x14)] [] [] (rk hC [] [5,37,38] [(5,vI (wr (x9+1)))] [] [] (lE h))
   ·refine dL ?_
    obtain⟨x15,hx15,h⟩:=bd h
    exact rk hC [oS hx15] [3,52,53] [(3,vS x15)] [] [] (rk hC [] [4,17,18] [(4,vI (wr (x3+1)))] [] [] (lE h))
  ·refine dL (qs (rq hC [] [6] [(6,vI 0)] [] [] (qb (kJ h (fun x_=>aZ [(1,V.tp (cD p)),(3,vS x_.1),(6,vI x_.2)] [] []) lS ?_))))
   rintro again18 ⟨x16,x17⟩ h
   refine qs (rq hC [oN aF p.parts] (fr 54 5) [(58,vB (decide (x17<(p.parts.length:Int))))] [] [] (aU h (fun c4 h=> ?_) (fun c4 h=> ?_)))
   ·refine qk (qs (qb ?_))
    obtain⟨x19,hx19,x20,hx20,x21,hx21,h⟩:=kQ h
    obtain⟨x22,hx22,h⟩:=bd h
    refine rq hC [oS hx19,oR aF hx20,oV (aAn G hx21),oS hx22] [3,61,62,63,64,65,66,67,68,69,70] [(3,vS x22)] [] [] (rq hC [] [7] [(7,vI 0)] [] [] (qb (kJ h (fun x_=>aZ [(1,V.tp (cD p)),(3,vS x_.1),(6,vI x17),(7,vI x_.2)] [] []) lS ?_)))
    rintro again25 ⟨x23,x24⟩ h
    refine qs (rq hC [oR aF hx20,oN aR x20.body] (fr 71 9) [(79,vB (decide (x24<(x20.body.length:Int))))] [] [] (aU h (fun c5 h=> ?_) (fun c5 h=> ?_)))
    ·refine qk (qs (qb ?_))
     obtain⟨x26,hx26,h⟩:=bd h
     refine rq hC [oR aF hx20,oR aR hx26,.z (.nat 20)] [8,82,83,84,85,86,87,88,89,90] [(8,V.ref 20 0)] [(20,some (E.cells (fU x26)))] [(20,true)] ?_
     obtain⟨x27,hx27,x28,hx28,x29,hx29,h⟩:=kQ h
     obtain⟨x30,hx30,x31,hx31,x32,hx32,h⟩:=kQ h
     exact dk hC bP [oV (iW G hx27),oS hx28,oS hx29,oV (zE G n x26.value hx30),oS hx31,oS hx32] [3,91,92,93,94,95,96,97,98,99,100,101] [(3,vS x32)] [] [] (rk hC [] [7,80,81] [(7,vI (wr (x24+1)))] [] [] (lE h))
    ·exact dL (rk hC [] [6,59,60] [(6,vI (wr (x17+1)))] [] [] (lE h))
   ·obtain rfl:=so h
    exact dL (rq hC [] [2,102] [(2,vS x16)] [] [] (qr eR))
theorem mY{text}{r}(h:cQ n text=some r):PQ G 113 [vS text] (V.tup [V.agg (cO r.1),vB r.2]):=by
 unfold cQ at h
 refine pq aS Tryz.func113 rfl fun w X hC=> ?_
 refine rq hC [.z (.nat 20)] [2,3] [(2,V.ref 20 0)] [(20,sc [V.t T.nilS,V.t T.nilS])] [(20,true)] ?_
 obtain⟨x1,hx1,h⟩:=bd h
 refine rq hC [oC [] [21] (rH G hx1)] [4,7,8] [(4,ms 21 1 1 rS x1)] [(21,some (ar 9 1 1 rS x1))] [(21,true)] (rq hC [.z (.nat 22)] [5,9] [(5,V.ref 22 0)] [(22,sc [V.t T.nilS,V.t T.nilS])] [(22,true)] (qs (rq hC [oN rS x1] [10,11,12] [(12,vB (decide ((42:Int)<(x1.length:Int))))] [] [] (aU h (fun c1 h=> ?_) (fun c1 h=> ?_)))))
 ·obtain rfl:=so h
  exact rq hC [] [3,13] [(3,vB false)] [(20,sc [V.t T.nilS,V.t T.nilS])] [] (qr eR)
 ·refine qk (qs (rq hC [] [6] [(6,vI 1)] [] [] (qb (qw (lk hC [.growc 22 0 23 77,.growc 22 1 24 62,.tre 24 pH 0] [] [] [(23,some (ar 77 1 2 aI [])),(24,some (E.tree pH 0 1 (List.map aF []) [])),(22,sc [ms 23 1 2 aI [],ms 24 1 2 aF []])] [(23,true),(24,true)]) (bM (γ:=Nat×Nat) h (fun x_ g_=>aZ [(0,vS text),(2,V.ref 20 0),(4,ms 21 1 1 rS x1),(5,V.ref 22 0),(6,vI x_.2.2)] [(20,E.cells [V.t T.nilS,V.t T.nilS]),(21,ar 9 1 1 rS x1),(22,E.cells [ms 23 g_.1 2 aI x_.1,ms 24 g_.2 2 aF x_.2.1]),(23,ar 77 g_.1 2 aI x_.1),(24,E.tree pH 0 g_.2 (List.map aF x_.2.1) [])] [20,21,22,23,24]) (1,1) (lS) ?_)))))
  rintro again5 ⟨x2,x3,x4⟩ ⟨g5,g6⟩ h
  refine qs (rq hC [oN rS x1] (fr 14 5) [(18,vB (decide (wr (x4+1)<(x1.length:Int))))] [] [] (aU h (fun c2 h=> ?_) (fun c2 h=> ?_)))
  ·refine qk (qs (qb ?_))
   obtain⟨x6,hx6,x7,hx7,h⟩:=d4 h
   exact dk hC bP [oQ (lO rS hx6),oX rS hx6,oC [23,24] [] (aAh G n (⟨x2,x3⟩:Prog) x6 g5 g6 hx7)] (fr 21 6) [] [(23,some (ar 77 (g5+1) 2 aI x7.arrays)),(24,some (E.tree pH 0 (g6+1) (List.map aF x7.parts) [])),(22,sc [ms 23 (g5+1) 2 aI x7.arrays,ms 24 (g6+1) 2 aF x7.parts])] [(23,true),(24,true)] (rk hC [] [6,19,20] [(6,vI (wr (x4+1)))] [] [] ⟨(x7.arrays,x7.parts,wr (x4+1)),(g5+1,g6+1),h,lS⟩)
  ·refine dL (qs (vj h (fun x_=>aZ [(2,V.ref 20 0),(5,V.ref 22 0),(34,vB x_)] [(20,E.cells [V.t T.nilS,V.t T.nilS]),(21,ar 9 1 1 rS x1),(22,E.cells [ms 23 g5 2 aI x2,ms 24 g6 2 aF x3]),(23,ar 77 g5 2 aI x2),(24,E.tree pH 0 g6 (List.map aF x3) [])] [20,21,22,23,24]) (fun j8 h=> ?_) (fun x10 h=> ?_)))
   ·
    refine aT h (fun c3 h=> ?_) (fun c3 h=> ?_)
    ·obtain⟨x9,hx9,h⟩:=bd h
     exact rk hC ([oF c3,oF c3,.z (.b true),.z (.nat 23),.z (.nat 24),oV (tH G hx9)]++rF 3 c3) (fr 27 8) [(34,vB (!decide (x9=text)))] [] [] (lE h)
    ·exact rk hC (rT 5 c3) (fr 27 8) [(34,vB true)] [] [] (lE h)
   ·refine aU h (fun c4 h=> ?_) (fun c4 h=> ?_)
    ·obtain rfl:=so h
     exact rq hC [] [3,35] [(3,vB false)] [(20,sc [V.t T.nilS,V.t T.nilS])] [] (qr eR)
    ·obtain rfl:=so h
     exact qk (qs (qw (lk hC [.fz 23 [] [22],.shd 24,.fz 24 [] [22]] [] [] [(22,sc [vM aI x2,vM aF x3]),(23,none),(24,none)] []) (rk hC [] [3,36] [(3,vB true)] [(20,sc [vM aI x2,vM aF x3])] [] (qr eR))))
theorem nT(G:GS)(n:Nat){r:(List Arr)}(h:mG n=some r):PQ G 173 [] (vM aI r):=by
 unfold mG at h
 refine pq aS Tryz.func173 rfl fun w X hC=> ?_
 obtain rfl:=so h
 exact rq hC [] [0] [] [] [] (rq hC [.z (.int 0),.z (.int 0),.z (.int 0),.z (.int 0)] (fr 0 8) [(0,vM aI [(⟨[65],[6]⟩:Arr),(⟨[66],[4,5]⟩:Arr),(⟨[67],[3]⟩:Arr)])] [] [] (qr eR))
theorem qQ{a}{x}{b}{y}{r}(h:gK n a x b y=some r):VQ G 86 [] [V.agg (bC a),vI x,V.agg (bC b),vI y] (V.agg [ms 0 1 1 rI r.coefs,vI r.const]) [ar 3 1 1 rI r.coefs]:=by
 unfold gK at h
 refine vq aS Tryz.func86 rfl fun w X β0 hC hg=> ?_
 refine rq hC [.z (.b (true)),.z (.b (true)),.z (.nat 20)] [4,6,8] [(4,V.tp (bK a)),(6,V.tp (bK b)),(8,V.ref 20 0)] [(20,sc [V.t T.nilS,vI 0])] [(20,true)] (rq hC [.z (.nat 21)] [9,11,12,13,14,15,16,17,18,19,20] [(9,V.ref 21 0)] [(21,sc [V.t T.nilS,vI (wr ((wr (x*a.const))+(wr (y*b.const))))])] [(21,true)] (qs (rq hC [] [10] [(10,vI 0)] [] [] (qb (qw (lk hC [.growc 21 0 22 3] [] [] [(22,some (ar 3 1 1 rI [])),(21,sc [ms 22 1 1 rI [],vI (wr ((wr (x*a.const))+(wr (y*b.const))))])] [(22,true)]) ?_)))))
 refine bM (γ:=Nat) h (fun x_ g_=>aZ [(1,vI x),(3,vI y),(4,V.tp (bK a)),(6,V.tp (bK b)),(8,V.ref 20 0),(9,V.ref 21 0),(10,vI x_.2)] [(20,E.cells [V.t T.nilS,vI 0]),(21,E.cells [ms 22 g_ 1 rI x_.1,vI (wr ((wr (x*a.const))+(wr (y*b.const))))]),(22,ar 3 g_ 1 rI x_.1)] [20,21,22]) 1 (lS) ?_
 rintro again4 ⟨x1,x2⟩ g3 h
 refine qs (rq hC [] [21,22] [(22,vB (decide (x2<4)))] [] [] (aU h (fun c1 h=> ?_) (fun c1 h=> ?_)))
 ·refine qk (qs (qb ?_))
  obtain⟨x5,hx5,x6,hx6,x7,hx7,h⟩:=kQ h
  exact dk hC bP [oR rI hx5,oR rI hx6,.z (.int 0),oA (aM rI hx7),oQ (bZ (r:=rI) 1 (fun _=>rfl) x1),oQ (bZ (r:=rI) 1 (fun _=>rfl) [wr ((wr (x*x5))+(wr (y*x6)))])] (fr 25 20) [] [(22,some (ar 3 (g3+1) 1 rI x7)),(21,sc [ms 22 (g3+1) 1 rI x7,vI (wr ((wr (x*a.const))+(wr (y*b.const))))])] [] (rk hC [] [10,23,24] [(10,vI (wr (x2+1)))] [] [] ⟨(x7,wr (x2+1)),(g3+1),h,lS⟩)
 ·obtain rfl:=so h
  exact dL (rq hC [] [45] [] [(20,sc [ms 22 g3 1 rI x1,vI (wr ((wr (x*a.const))+(wr (y*b.const))))])] [] (qw (lk hC [.rn 22 0 [] [20,21]] [] [] [(20,sc [ms 0 1 1 rI x1,vI (wr ((wr (x*a.const))+(wr (y*b.const))))]),(21,sc [ms 0 1 1 rI x1,vI (wr ((wr (x*a.const))+(wr (y*b.const))))]),(22,none),(0,some (ar 3 1 1 rI x1))] [(0,true)]) (qr eW)))
theorem aAp{r_a0}{depth}{r}(h:o9 n r_a0 depth=some r):VQ G 263 [eL r_a0] [V.ref 0 0,vI depth] (V.agg (F6 r.1)) [eL r.2]:=by
 unfold o9 at h
 refine vq aS Tryz.func263 rfl fun w X β0 hC hg=> ?_
 refine rq hC [.z (.nat 20)] [4] [(4,V.ref 20 0)] [(20,sc [V.t T.nilS,V.t T.nilS])] [(20,true)] ?_
 obtain⟨x1,hx1,x2,hx2,h⟩:=d4 h
 refine rq hC [.z (.int 0),oC [0] [] (aX G hx1),oC [] [21] (cF G hx2),.z (.nat 22)] [5,9,10,11,12] [(5,V.ref 22 0)] [(0,sR x1.2),(21,some (ar 3 1 1 rI x2.coefs)),(22,sc [ms 21 1 1 rI x2.coefs,vI x2.const])] [(0,true),(21,true),(22,true)] ?_
 obtain⟨x3,hx3,x4,hx4,h⟩:=d4 h
 refine rq hC [.z (.int 0),oC [0] [] (aX G hx3),oC [] [23] (cF G hx4),.z (.nat 24)] [6,13,14,15,16] [(6,V.ref 24 0)] [(0,sR x3.2),(23,some (ar 3 1 1 rI x4.coefs)),(24,sc [ms 23 1 1 rI x4.coefs,vI x4.const])] [(0,true),(23,true),(24,true)] (vj h (fun x_=>aZ [(0,V.ref 0 0),(4,V.ref 20 0),(5,V.ref 22 0),(6,V.ref 24 0)] [(0,E.cells [vM rY x_.1,vI x_.2.1]),(20,E.cells [V.t T.nilS,V.t T.nilS]),(22,E.cells [vM rI x_.2.2.1,vI x_.2.2.2.1]),(24,E.cells [vM rI x_.2.2.2.2.1,vI x_.2.2.2.2.2])] [0,20,21,22,23,24]) (fun j5 h=> ?_) ?_)
 ·
  refine vj h (fun x_=>aZ [(0,V.ref 0 0),(1,vI depth),(4,V.ref 20 0),(5,V.ref 22 0),(6,V.ref 24 0),(23,vB x_.2.2)] [(0,E.cells [vM rY x_.1,vI x_.2.1]),(20,E.cells [V.t T.nilS,V.t T.nilS]),(21,ar 3 1 1 rI x2.coefs),(22,E.cells [ms 21 1 1 rI x2.coefs,vI x2.const]),(23,ar 3 1 1 rI x4.coefs),(24,E.cells [ms 23 1 1 rI x4.coefs,vI x4.const])] [0,20,21,22,23,24]) (fun j6 h=> ?_) ?_
  ·
   refine aT h (fun c1 h=> ?_) (fun c1 h=> ?_)
   ·exact rk hC (rF 4 c1) (fr 17 7) [(23,vB false)] [] [] (lE h)
   ·obtain⟨x7,hx7,h⟩:=bd h
    exact rk hC [oT c1,oT c1,oC [0] [] (bA G hx7),oT c1,oT c1] (fr 17 7) [(23,vB (decide (x7.1=0)))] [(0,sR x7.2)] [(0,true)] (lE h)
  ·rintro⟨x8,x9,x10⟩ h
   refine aU h (fun c2 h=> ?_) (fun c2 h=> ?_)
   ·obtain⟨x11,hx11,h⟩:=bd h
    refine rq hC [oC [0] [] (bA G hx11)] [7,24,25,26] [(7,vI x11.1)] [(0,sR x11.2)] [(0,true)] ?_
    obtain⟨x12,hx12,h⟩:=bd h
    refine rq hC [oC [0] [] (bA G hx12)] [27,28,29] [(29,vB (decide (x12.1=0)))] [(0,sR x12.2)] [(0,true)] (aU h (fun c3 h=> ?_) (fun c3 h=> ?_))
    ·obtain⟨x13,hx13,h⟩:=bd h
     exact rk hC [oC [] [25] (mX G hx13)] [30,31] [] [(25,some (ar 3 1 1 rI x13.coefs)),(22,sc [ms 25 1 1 rI x13.coefs,vI x13.const])] [(25,true)] ⟨(x12.2.b,x12.2.p,x13.coefs,x13.const,x4.coefs,x4.const),h,((lk hC [.fz 23 [] [24],.fz 25 [] [22]] [] [] [(24,some (E.cells (bC x4))),(23,none),(22,some (E.cells (bC x13))),(25,none)] []).trans (lS))⟩
    ·obtain⟨x14,hx14,x15,hx15,x16,hx16,h⟩:=kQ h
     exact rk hC [oC [] [25] (mX G hx14),oC [] [26] (cF G hx15),.z (.at 2),.z (.fz 25 [33] []),.z (.at 2),.z (.fz 26 [34] []),oC [] [27] (qQ G hx16)] (fr 32 4) [] [(25,none),(26,none),(27,some (ar 3 1 1 rI x16.coefs)),(24,sc [ms 27 1 1 rI x16.coefs,vI x16.const])] [(25,true),(26,true),(27,true)] ⟨(x12.2.b,x12.2.p,x2.coefs,x2.const,x16.coefs,x16.const),h,((lk hC [.fz 21 [] [22],.fz 27 [] [24]] [] [] [(22,some (E.cells (bC x2))),(21,none),(24,some (E.cells (bC x16))),(27,none)] []).trans (lS))⟩
   ·exact qk ⟨(x8,x9,x2.coefs,x2.const,x4.coefs,x4.const),h,((lk hC [.fz 21 [] [22],.fz 23 [] [24]] [] [] [(22,some (E.cells (bC x2))),(21,none),(24,some (E.cells (bC x4))),(23,none)] []).trans (lS))⟩
 ·rintro⟨x17,x18,x19,x20,x21,x22⟩ h
  refine rq hC [.z (.int 1),.z (.nat 25),.z (.int 1),.z (.nat 26),.z (.nat 27)] [8,36,37,38,39,40] [(8,V.ref 27 0)] [(25,some (ar 65 1 2 aB [(⟨x19,x20⟩:Affine)])),(26,some (ar 65 1 2 aB [(⟨x21,x22⟩:Affine)])),(27,sc [ms 25 1 2 aB [(⟨x19,x20⟩:Affine)],ms 26 1 2 aB [(⟨x21,x22⟩:Affine)]])] [(25,true),(26,true),(27,true)] ?_
  obtain⟨j23,hj23,h⟩:=yG h
  refine jM (γ:=Nat×Nat) (j:=j23) (r:=r) (fun x_ g_=>aZ [(4,V.ref 20 0),(8,V.ref 27 0)] [(0,E.cells [vM rY x_.1,vI x_.2.1]),(20,E.cells [V.t T.nilS,V.t T.nilS]),(22,E.cells [vM rI x19,vI x20]),(24,E.cells [vM rI x21,vI x22]),(25,ar 65 g_.1 2 aB x_.2.2.1),(26,ar 65 g_.2 2 aB x_.2.2.2),(27,E.cells [ms 25 g_.1 2 aB x_.2.2.1,ms 26 g_.2 2 aB x_.2.2.2])] [0,20,21,22,23,24,25,26,27]) ?_ ?_
  ·
   obtain⟨x24,hx24,h⟩:=bd h
   refine rq hC [oC [0] [] (bA G hx24)] [41,42] [(42,vI x24.1)] [(0,sR x24.2)] [(0,true)] (qb (rq hC [] [43,44] [(43,vB (decide (x24.1=0)))] [] [] (aU h (fun c4 h=> ?_) (fun c4 h=> ?_))))
   ·obtain⟨x25,hx25,x26,hx26,x27,hx27,h⟩:=kQ h
    exact dk hC bP [.z (.int 0),oC [0] [] (aX G hx25),oC [] [28] (cF G hx26),.z (.at 4),.z (.fz 28 [50] []),.z (.int 0),oA (aM aB hx27),oQ (bZ (r:=aB) 2 bF [(⟨x21,x22⟩:Affine)]),oQ (bZ (r:=aB) 2 bF [x26])] (fr 45 9) [] [(0,sR x25.2),(28,none),(26,some (ar 65 2 2 aB x27)),(27,sc [ms 25 1 2 aB [(⟨x19,x20⟩:Affine)],ms 26 2 2 aB x27])] [(0,true),(28,true)] ⟨(x25.2.b,x25.2.p,[(⟨x19,x20⟩:Affine)],x27),(1,2),h,lS⟩
   ·refine rq hC [] [54,55] [(54,vB (decide (x24.1=1)))] [] [] (aU h (fun c5 h=> ?_) (fun c5 h=> ?_))
    ·obtain⟨x28,hx28,x29,hx29,x30,hx30,h⟩:=kQ h
     exact dk hC bP [.z (.int 0),oC [0] [] (aX G hx28),oC [] [28] (cF G hx29),.z (.at 4),.z (.fz 28 [61] []),.z (.int 0),oA (aM aB hx30),oQ (bZ (r:=aB) 2 bF [(⟨x19,x20⟩:Affine)]),oQ (bZ (r:=aB) 2 bF [x29])] (fr 56 9) [] [(0,sR x28.2),(28,none),(25,some (ar 65 2 2 aB x30)),(27,sc [ms 25 2 2 aB x30,ms 26 1 2 aB [(⟨x21,x22⟩:Affine)]])] [(0,true),(28,true)] ⟨(x28.2.b,x28.2.p,x30,[(⟨x21,x22⟩:Affine)]),(2,1),h,lS⟩
    ·exact qk ⟨(x24.2.b,x24.2.p,[(⟨x19,x20⟩:Affine)],[(⟨x21,x22⟩:Affine)]),(1,1),h,lS⟩
  ·rintro⟨x31,x32,x33,x34⟩ ⟨g35,g36⟩ h
   subst hj23
   obtain rfl:=so h
   exact rq hC [.z (.at 2),.z (.fz 25 [] [27]),.z (.at 2),.z (.fz 26 [] [27])] [65] [] [(27,sc [vM aB x33,vM aB x34]),(25,none),(26,none),(20,sc [vM aB x33,vM aB x34])] [] (qr eW)
theorem aAo{r_a0}{r}(h:o8 n r_a0=some r):VQ G 228 [eL r_a0] [V.ref 0 0] (ms 1 1 2 aD r.1) [eL r.2,ar 58 1 2 aD r.1]:=by
 unfold o8 at h
 refine vq aS Tryz.func228 rfl fun w X β0 hC hg=> ?_
 refine rq hC [] [2] [] [] [] (rq hC [.z (.nat 20)] [3,5] [(3,ms 20 1 2 aD [])] [(20,some (ar 58 1 2 aD []))] [(20,true)] (qs ?_))
 obtain⟨x1,hx1,h⟩:=bd h
 refine rq hC [.z (.int 0),oC [0] [] (aX G hx1)] [4,6,7,8] [(4,vI x1.1)] [(0,sR x1.2)] [(0,true)] (qb (bM (γ:=Nat) h (fun x_ g_=>aZ [(0,V.ref 0 0),(3,ms 20 g_ 2 aD x_.2.2.1),(4,vI x_.2.2.2)] [(0,E.cells [vM rY x_.1,vI x_.2.1]),(20,ar 58 g_ 2 aD x_.2.2.1)] [0,20]) 1 (lS) ?_))
 rintro again7 ⟨x2,x3,x4,x5⟩ g6 h
 refine qs (rq hC [] [9,10] [(10,vB (decide ((0:Int)<x5)))] [] [] (aU h (fun c1 h=> ?_) (fun c1 h=> ?_)))
 ·refine qk (qs (qb ?_))
  obtain⟨x8,hx8,x9,hx9,h⟩:=d4 h
  exact rk hC [oN aD x4,oC [0] [] (aAp G hx8),.z (.int 0),oA (aM aD hx9),oQ (bZ (r:=aD) 2 eY x4),oQ (bZ (r:=aD) 2 eY [x8.1])] [3,13,14,15,16,17,18,19] [(3,ms 20 (g6+1) 2 aD x9)] [(0,sR x8.2),(20,some (ar 58 (g6+1) 2 aD x9))] [(0,true)] (rk hC [] [4,11,12] [(4,vI (wr (x5-1)))] [] [] ⟨(x8.2.b,x8.2.p,x9,wr (x5-1)),(g6+1),h,lS⟩)
 ·obtain rfl:=so h
  exact dL (rq hC [] [2,20] [(2,ms 20 g6 2 aD x4)] [] [] (qw (lk hC [.ren 2 20 1] [2] [(2,ms 1 1 2 aD x4)] [(1,some (ar 58 1 2 aD x4)),(20,none)] [(1,true)]) (qr eW)))
end Go.Lift
