/- The walks: the code computes what the plain functions say. -/
import Derived.Test.YtdcjmccimcppbaaGreatFModels
import Derived.Test.YtdcjmccimcppbaaGreatFTab
import Derived.Test.YtdcjmccimcppbaaGreatFCells
set_option maxRecDepth 10000
set_option linter.unusedVariables false
namespace Go.Lift
open Go Go.Proofs
variable (G:GS) {n:Nat}
theorem y5{list}{r}(h:o5 n list=some r):PQ G 161 [vM aJ list] (vB r):=by
 unfold o5 at h
 refine pq aO Tryz.func161 rfl fun w X hC=> ?_
 refine rq hC [] [2] [] [] [] (qs (rq hC [] [3] [(3,vI 0)] [] [] (qb (jN h (fun x_=>aX [(0,vM aJ list),(3,vI x_)] [] []) lS ?_))))
 rintro again2 x1 h
 refine qs (rq hC [oN aJ list] (fr 6 4) [(9,vB (decide (x1<(list.length:Int))))] [] [] (aS h (fun c1 h=> ?_) (fun c1 h=> ?_)))
 ·refine qk (qs (qb ?_))
  obtain⟨x3,hx3,h⟩:=bd h
  refine rq hC [oR aJ hx3,.z (.nat 20)] [4,12,13,14,15] [(4,V.ref 20 0)] [(20,sc [vS x3.name,vM rI x3.dims])] [(20,true)] (qs (vj h (fun x_=>aX [(0,vM aJ list),(3,vI x1),(4,V.ref 20 0),(56,vB x_)] [(20,E.cells [vS x3.name,vM rI x3.dims])] [20]) (fun j4 h=> ?_) (fun x6 h=> ?_)))
  ·
   refine aQ h (fun c2 h=> ?_) (fun c2 h=> ?_)
   ·refine aQ h (fun c3 h=> ?_) (fun c3 h=> ?_)
    ·refine aQ h (fun c4 h=> ?_) (fun c4 h=> ?_)
     ·refine aQ h (fun c5 h=> ?_) (fun c5 h=> ?_)
      ·refine aQ h (fun c6 h=> ?_) (fun c6 h=> ?_)
       ·exact dk hC bA (rF 4 c2++rF 4 c3++rF 3 c4++rF 9 c5++[oF c4,oF c5,oF c4,eF,eF,eF,oN rI x3.dims,eF,eF]++rF 3 c6++[oN rI x3.dims,oF c6,oF c6]) (fr 16 41) [(56,vB (decide ((2:Int)<(x3.dims.length:Int))))] [] [] (lE h)
       ·exact dk hC bA (rF 4 c2++rF 4 c3++rF 3 c4++rF 9 c5++[oF c4,oF c5,oF c4,eF,eF,eF,oN rI x3.dims,eF,eF]++rT 5 c6) (fr 16 41) [(56,vB true)] [] [] (lE h)
      ·obtain⟨x5,hx5,h⟩:=bd h
       refine aQ h (fun c7 h=> ?_) (fun c7 h=> ?_)
       ·refine aQ h (fun c8 h=> ?_) (fun c8 h=> ?_)
        ·exact dk hC bA (rF 4 c2++rF 4 c3++rF 3 c4++rT 4 c5++[oR aJ hx5]++rT 5 c5++[oF c4,oT c5,oF c4]++rF 3 c7++[oN rI x3.dims,oF c7,oF c7]++rF 3 c8++[oN rI x3.dims,oF c8,oF c8]) (fr 16 41) [(56,vB (decide ((2:Int)<(x3.dims.length:Int))))] [] [] (lE h)
        ·exact dk hC bA (rF 4 c2++rF 4 c3++rF 3 c4++rT 4 c5++[oR aJ hx5]++rT 5 c5++[oF c4,oT c5,oF c4]++rF 3 c7++[oN rI x3.dims,oF c7,oF c7]++rT 5 c8) (fr 16 41) [(56,vB true)] [] [] (lE h)
       ·exact dk hC bA (rF 4 c2++rF 4 c3++rF 3 c4++rT 4 c5++[oR aJ hx5]++rT 5 c5++[oF c4,oT c5,oF c4]++rT 5 c7++sT 5) (fr 16 41) [(56,vB true)] [] [] (lE h)
     ·exact dk hC bA (rF 4 c2++rF 4 c3++rT 5 c4++sT 10) (fr 16 41) [(56,vB true)] [] [] (lE h)
    ·exact dk hC bA (rF 4 c2++rT 4 c3++sT 15) (fr 16 41) [(56,vB true)] [] [] (lE h)
   ·exact dk hC bA (rT 4 c2++sT 19) (fr 16 41) [(56,vB true)] [] [] (lE h)
  ·refine aS h (fun c9 h=> ?_) (fun c9 h=> ?_)
   ·obtain rfl:=so h
    exact rq hC [] [2] [(2,vB false)] [] [] (qr eR)
   ·refine qk (rq hC [] [5] [(5,vI 0)] [] [] (qb (jN h (fun x_=>aX [(0,vM aJ list),(3,vI x1),(4,V.ref 20 0),(5,vI x_)] [(20,E.cells [vS x3.name,vM rI x3.dims])] [20]) lS ?_)))
    rintro again8 x7 h
    refine qs (rq hC [oN rI x3.dims] (fr 57 5) [(61,vB (decide (x7<(x3.dims.length:Int))))] [] [] (aS h (fun c10 h=> ?_) (fun c10 h=> ?_)))
    ·refine qk (qs (qb (vj h (fun x_=>aX [(0,vM aJ list),(3,vI x1),(4,V.ref 20 0),(5,vI x7),(77,vB x_)] [(20,E.cells [vS x3.name,vM rI x3.dims])] [20]) (fun j9 h=> ?_) (fun x11 h=> ?_))))
     ·
      obtain⟨x10,hx10,h⟩:=bd h
      refine aQ h (fun c11 h=> ?_) (fun c11 h=> ?_)
      ·exact rk hC ([oR rI hx10]++rF 4 c11++[oR rI hx10]++rF 3 c11) (fr 64 14) [(77,vB (decide ((6:Int)<x10)))] [] [] (lE h)
      ·exact rk hC ([oR rI hx10]++rT 7 c11) (fr 64 14) [(77,vB true)] [] [] (lE h)
     ·refine aS h (fun c12 h=> ?_) (fun c12 h=> ?_)
      ·obtain rfl:=so h
       exact rq hC [] [2] [(2,vB false)] [] [] (qr eR)
      ·exact qk (rk hC [] [5,62,63] [(5,vI (wr (x7+1)))] [] [] (lE h))
    ·exact cW (rk hC [] [3,10,11] [(3,vI (wr (x1+1)))] [] [] (lE h))
 ·obtain rfl:=so h
  exact cW (rq hC [oN aJ list] [2,78,79,80] [(2,vB (decide ((list.length:Int)≤4)))] [] [] (qr eR))
theorem nD{a}{r}(h:hD n a=some r):PQ G 267 [V.agg (aK a)] (vI r):=by
 unfold hD at h
 refine pq aO Tryz.func267 rfl fun w X hC=> ?_
 refine rq hC [.z (.b (true))] [1,2] [(1,V.tp (aT a))] [] [] (rq hC [] [3] [(3,vI 0)] [] [] (qs (rq hC [] [4] [(4,vI 0)] [] [] (qb (jN h (fun x_=>aX [(1,V.tp (aT a)),(3,vI x_.1),(4,vI x_.2)] [] []) lS ?_)))))
 rintro again3 ⟨x1,x2⟩ h
 refine qs (rq hC [oN rI a.coefs] (fr 5 5) [(9,vB (decide (x2<(a.coefs.length:Int))))] [] [] (aS h (fun c1 h=> ?_) (fun c1 h=> ?_)))
 ·refine qk (vj h (fun x_=>aX [(1,V.tp (aT a)),(3,vI x_),(4,vI x2)] [] []) (fun j4 h=> ?_) (fun x6 h=> ?_))
  ·
   refine qb ?_
   obtain⟨x5,hx5,h⟩:=bd h
   refine rq hC [oR rI hx5] (fr 12 6) [(17,vB (!decide (x5=0)))] [] [] (aS h (fun c2 h=> ?_) (fun c2 h=> ?_))
   ·exact rk hC [] [3,18,19] [(3,vI (wr (x2+1)))] [] [] (lE h)
   ·exact qk (lE h)
  ·exact rk hC [] [4,10,11] [(4,vI (wr (x2+1)))] [] [] (lE h)
 ·obtain rfl:=so h
  exact cW (rq hC [] [2,20] [(2,vI x1)] [] [] (qr eR))
theorem s9{n_a0}{most}{r}(h:kL n n_a0 most=some r):PQ G 302 [vI n_a0,vI most] (vB r):=by
 unfold kL at h
 refine pq aO Tryz.func302 rfl fun w X hC=> ?_
 refine rq hC [] [4] [] [] [] (vj h (fun x_=>aX [(4,vB x_)] [] []) (fun j1 h=> ?_) (fun x2 h=> ?_))
 ·
  refine aQ h (fun c1 h=> ?_) (fun c1 h=> ?_)
  ·exact rk hC (rF 4 c1) (fr 4 10) [(4,vB false)] [] [] (lE h)
  ·exact rk hC (rT 4 c1) (fr 4 10) [(4,vB (decide (n_a0≤most)))] [] [] (lE h)
 ·obtain rfl:=so h
  exact qr eR
theorem eE{a}{r}(h:eK n a=some r):PQ G 303 [V.agg (aK a)] (vB r):=by
 unfold eK at h
 refine pq aO Tryz.func303 rfl fun w X hC=> ?_
 refine rq hC [.z (.b (true))] [1,2] [(1,V.tp (aT a))] [] [] (qs (rq hC [] [3] [(3,vI 0)] [] [] (qb (jN h (fun x_=>aX [(1,V.tp (aT a)),(3,vI x_)] [] []) lS ?_))))
 rintro again2 x1 h
 refine qs (rq hC [oN rI a.coefs] (fr 4 5) [(8,vB (decide (x1<(a.coefs.length:Int))))] [] [] (aS h (fun c1 h=> ?_) (fun c1 h=> ?_)))
 ·refine qk (qs (qb ?_))
  obtain⟨x3,hx3,x4,hx4,h⟩:=cO h
  refine rq hC [oR rI hx3,oV (s9 G hx4)] (fr 11 7) [(17,vB (!x4))] [] [] (aS h (fun c2 h=> ?_) (fun c2 h=> ?_))
  ·obtain rfl:=so h
   exact rq hC [] [2] [(2,vB false)] [] [] (qr eR)
  ·exact qk (rk hC [] [3,9,10] [(3,vI (wr (x1+1)))] [] [] (lE h))
 ·refine cW (vj h (fun x_=>aX [(2,vB x_)] [] []) (fun j5 h=> ?_) (fun x7 h=> ?_))
  ·
   refine aQ h (fun c3 h=> ?_) (fun c3 h=> ?_)
   ·exact rk hC ([oN rI a.coefs]++rF 4 c3) [2,18,19,20,21,22,23,24,25,26] [(2,vB false)] [] [] (lE h)
   ·obtain⟨x6,hx6,h⟩:=bd h
    exact rk hC ([oN rI a.coefs]++rT 3 c3++[oV (s9 G hx6),oT c3]) [2,18,19,20,21,22,23,24,25,26] [(2,vB x6)] [] [] (lE h)
  ·obtain rfl:=so h
   exact qr eR
theorem xE{list}{depth}{r}(h:qV n list depth=some r):PQ G 341 [vM aA list,vI depth] (vB r):=by
 unfold qV at h
 refine pq aO Tryz.func341 rfl fun w X hC=> ?_
 refine rq hC [] [4] [] [] [] (qs (rq hC [] [5] [(5,vI 0)] [] [] (qb (jN h (fun x_=>aX [(0,vM aA list),(1,vI depth),(5,vI x_)] [] []) lS ?_))))
 rintro again2 x1 h
 refine qs (rq hC [oN aA list] (fr 6 4) [(9,vB (decide (x1<(list.length:Int))))] [] [] (aS h (fun c1 h=> ?_) (fun c1 h=> ?_)))
 ·refine qk (qs (qb (vj h (fun x_=>aX [(0,vM aA list),(1,vI depth),(5,vI x1),(26,vB x_)] [] []) (fun j3 h=> ?_) (fun x7 h=> ?_))))
  ·
   obtain⟨x4,hx4,x5,hx5,h⟩:=cO h
   refine aQ h (fun c2 h=> ?_) (fun c2 h=> ?_)
   ·obtain⟨x6,hx6,h⟩:=bd h
    exact rk hC ([oR aA hx4,oV (eE G hx5)]++rF 3 c2++[oR aA hx4,oF c2,oF c2,oV (nD G hx6)]++rF 3 c2) (fr 12 15) [(26,vB (decide (depth<x6)))] [] [] (lE h)
   ·exact rk hC ([oR aA hx4,oV (eE G hx5)]++rT 8 c2) (fr 12 15) [(26,vB true)] [] [] (lE h)
  ·refine aS h (fun c3 h=> ?_) (fun c3 h=> ?_)
   ·obtain rfl:=so h
    exact rq hC [] [4] [(4,vB false)] [] [] (qr eR)
   ·exact qk (rk hC [] [5,10,11] [(5,vI (wr (x1+1)))] [] [] (lE h))
 ·refine cW (vj h (fun x_=>aX [(4,vB x_)] [] []) (fun j8 h=> ?_) (fun x9 h=> ?_))
  ·
   refine aQ h (fun c4 h=> ?_) (fun c4 h=> ?_)
   ·exact rk hC ([oN aA list]++rF 4 c4) [4,27,28,29,30,31,32,33,34] [(4,vB false)] [] [] (lE h)
   ·exact rk hC [oN aA list,oT c4,oT c4,oN aA list,oT c4,oT c4] [4,27,28,29,30,31,32,33,34] [(4,vB (decide ((list.length:Int)≤2)))] [] [] (lE h)
  ·obtain rfl:=so h
   exact qr eR
theorem wI{nest}{r}(h:mY n nest=some r):PQ G 299 [vM aC nest] (vB r):=by
 unfold mY at h
 refine pq aO Tryz.func299 rfl fun w X hC=> ?_
 refine rq hC [] [2] [] [] [] (qs (rq hC [] [3] [(3,vI 0)] [] [] (qb (jN h (fun x_=>aX [(0,vM aC nest),(3,vI x_)] [] []) lS ?_))))
 rintro again2 x1 h
 refine qs (vj h (fun x_=>aX [(0,vM aC nest),(3,vI x1),(12,vB x_)] [] []) (fun j3 h=> ?_) (fun x4 h=> ?_))
 ·
  refine aQ h (fun c1 h=> ?_) (fun c1 h=> ?_)
  ·exact rk hC ([oN aC nest]++rF 4 c1) (fr 4 9) [(12,vB false)] [] [] (lE h)
  ·exact rk hC [oN aC nest,oT c1,oT c1,oN aC nest,oT c1,oT c1] (fr 4 9) [(12,vB (decide ((nest.length:Int)≤4)))] [] [] (lE h)
 ·refine aS h (fun c2 h=> ?_) (fun c2 h=> ?_)
  ·refine qk (qs (qb (vj h (fun x_=>aX [(0,vM aC nest),(3,vI x1),(32,vB x_)] [] []) (fun j5 h=> ?_) (fun x9 h=> ?_))))
   ·
    obtain⟨x6,hx6,x7,hx7,h⟩:=cO h
    refine aQ h (fun c3 h=> ?_) (fun c3 h=> ?_)
    ·obtain⟨x8,hx8,h⟩:=bd h
     exact rk hC ([oR aC hx6,oV (xE G hx7)]++rF 3 c3++[oR aC hx6]++rF 4 c3++[oV (xE G hx8),oF c3,oF c3]) (fr 15 18) [(32,vB (!x8))] [] [] (lE h)
    ·exact rk hC ([oR aC hx6,oV (xE G hx7)]++rT 9 c3) (fr 15 18) [(32,vB true)] [] [] (lE h)
   ·refine aS h (fun c4 h=> ?_) (fun c4 h=> ?_)
    ·obtain rfl:=so h
     exact rq hC [] [2] [(2,vB false)] [] [] (qr eR)
    ·exact qk (rk hC [] [3,13,14] [(3,vI (wr (x1+1)))] [] [] (lE h))
  ·obtain rfl:=so h
   exact cW (rq hC [oN aC nest] [2,33,34,35] [(2,vB (decide ((nest.length:Int)≤4)))] [] [] (qr eR))
theorem pO{a}{point}{r}(h:iN n a point=some r):PQ G 291 [V.agg (aK a),vM rI point] (vI r):=by
 unfold iN at h
 refine pq aO Tryz.func291 rfl fun w X hC=> ?_
 refine rq hC [.z (.b (true))] [2,4] [(2,V.tp (aT a))] [] [] (rq hC [] [5,7,8] [(5,vI a.const)] [] [] (qs (rq hC [] [6] [(6,vI 0)] [] [] (qb (jN h (fun x_=>aX [(1,vM rI point),(2,V.tp (aT a)),(5,vI x_.1),(6,vI x_.2)] [] []) lS ?_)))))
 rintro again3 ⟨x1,x2⟩ h
 refine qs (vj h (fun x_=>aX [(1,vM rI point),(2,V.tp (aT a)),(5,vI x1),(6,vI x2),(19,vB x_)] [] []) (fun j4 h=> ?_) (fun x5 h=> ?_))
 ·
  refine aQ h (fun c1 h=> ?_) (fun c1 h=> ?_)
  ·exact rk hC ([oN rI point]++rF 6 c1) (fr 9 11) [(19,vB false)] [] [] (lE h)
  ·exact rk hC ([oN rI point]++rT 4 c1++[oN rI a.coefs,oT c1,oT c1]) (fr 9 11) [(19,vB (decide (x2<(a.coefs.length:Int))))] [] [] (lE h)
 ·refine aS h (fun c2 h=> ?_) (fun c2 h=> ?_)
  ·refine qk (qs (qb ?_))
   obtain⟨x6,hx6,x7,hx7,h⟩:=cO h
   exact dk hC bA [oR rI hx6,oR rI hx7] [5,22,23,24,25,26,27,28,29,30,31,32,33] [(5,vI (wr (x1+(wr (x6*x7)))))] [] [] (rk hC [] [6,20,21] [(6,vI (wr (x2+1)))] [] [] (lE h))
  ·obtain rfl:=so h
   exact cW (rq hC [] [4,34] [(4,vI x1)] [] [] (qr eR))
theorem F8{loop}{p}{r}(h:oB n loop p=some r):PQ G 263 [V.agg (gX loop),vM rI p] (V.tup [vI r.1,vI r.2]):=by
 unfold oB at h
 refine pq aO Tryz.func263 rfl fun w X hC=> ?_
 refine rq hC [.z (.b (true))] [2,4,5] [(2,V.tp (mU loop))] [] [] ?_
 obtain⟨x1,hx1,x2,hx2,h⟩:=cO h
 refine rq hC [oR aA hx1,oV (pO G hx2)] [6,12,13,14,15,16,17] [(6,vI x2)] [] [] ?_
 obtain⟨x3,hx3,x4,hx4,h⟩:=cO h
 refine rq hC [oR aA hx3,oV (pO G hx4)] [7,18,19,20,21,22,23] [(7,vI x4)] [] [] (qs (rq hC [] [8] [(8,vI 1)] [] [] (qb (jN h (fun x_=>aX [(1,vM rI p),(2,V.tp (mU loop)),(6,vI x_.1),(7,vI x4),(8,vI x_.2)] [] []) lS ?_))))
 rintro again7 ⟨x5,x6⟩ h
 refine qs (rq hC [oN aA loop.lo] (fr 24 5) [(28,vB (decide (x6<(loop.lo.length:Int))))] [] [] (aS h (fun c1 h=> ?_) (fun c1 h=> ?_)))
 ·refine qk (vj h (fun x_=>aX [(1,vM rI p),(2,V.tp (mU loop)),(6,vI x_),(7,vI x4),(8,vI x6)] [] []) (fun j8 h=> ?_) (fun x11 h=> ?_))
  ·
   refine qb ?_
   obtain⟨x9,hx9,x10,hx10,h⟩:=cO h
   refine rq hC [oR aA hx9,oV (pO G hx10)] [9,31,32,33,34,35,36,37] [(9,vI x10)] [] [] (rq hC [] [38,39,40] [(40,vB (decide (x5<x10)))] [] [] (aS h (fun c2 h=> ?_) (fun c2 h=> ?_)))
   ·exact rk hC [] [6,41] [(6,vI x10)] [] [] (lE h)
   ·exact qk (lE h)
  ·exact rk hC [] [8,29,30] [(8,vI (wr (x6+1)))] [] [] (lE h)
 ·refine cW (qs (rq hC [] [10] [(10,vI 1)] [] [] (qb (jN h (fun x_=>aX [(1,vM rI p),(2,V.tp (mU loop)),(6,vI x5),(7,vI x_.1),(10,vI x_.2)] [] []) lS ?_))))
  rintro again14 ⟨x12,x13⟩ h
  refine qs (rq hC [oN aA loop.hi] (fr 42 5) [(46,vB (decide (x13<(loop.hi.length:Int))))] [] [] (aS h (fun c3 h=> ?_) (fun c3 h=> ?_)))
  ·refine qk (vj h (fun x_=>aX [(1,vM rI p),(2,V.tp (mU loop)),(6,vI x5),(7,vI x_),(10,vI x13)] [] []) (fun j15 h=> ?_) (fun x18 h=> ?_))
   ·
    refine qb ?_
    obtain⟨x16,hx16,x17,hx17,h⟩:=cO h
    refine rq hC [oR aA hx16,oV (pO G hx17)] [11,49,50,51,52,53,54,55] [(11,vI x17)] [] [] (rq hC [] [56,57,58] [(58,vB (decide (x17<x12)))] [] [] (aS h (fun c4 h=> ?_) (fun c4 h=> ?_)))
    ·exact rk hC [] [7,59] [(7,vI x17)] [] [] (lE h)
    ·exact qk (lE h)
   ·exact rk hC [] [10,47,48] [(10,vI (wr (x13+1)))] [] [] (lE h)
  ·obtain rfl:=so h
   exact cW (rq hC [] [4,5,60,61] [(4,vI x5),(5,vI x12)] [] [] (qr eR))
theorem aEj(G:GS): ∀(n:Nat) (nest:List Loop) (p:List Int) (most:Int) {r:Int} (h:s_l2Work n nest p most=some r),PQ G 300 [vM aC nest,vM rI p,vI most] (vI r):=by
 intro n
 induction n with
 |zero=>intro nest p most r h;rw [s_l2Work.eq_def] at h;cases h
 |succ n ih=>
  intro nest p most r h
  rw [s_l2Work.eq_def] at h;dsimp only at h
  refine pq aO Tryz.func300 rfl fun w X hC=> ?_
  refine rq hC [] [6] [] [] [] (rq hC [] [7] [(7,vI 1)] [] [] (qs (rq hC [oN rI p,oN aC nest] (fr 11 5) [(15,vB (decide ((p.length:Int)=(nest.length:Int))))] [] [] (aS h (fun c1 h=> ?_) (fun c1 h=> ?_)))))
  ·obtain rfl:=so h
   exact rq hC [] [6,16] [(6,vI 1)] [] [] (qr eR)
  ·refine qk ?_
   obtain⟨x1,hx1,x2,hx2,h⟩:=cO h
   refine rq hC [oN rI p,oR aC hx1,oV (F8 G hx2)] [8,9,17,18,19,20,21,22,23,24,25,26] [(8,vI x2.1),(9,vI x2.2)] [] [] (qs (rq hC [] [10,27] [(10,vI x2.1)] [] [] (qb (jN h (fun x_=>aX [(0,vM aC nest),(1,vM rI p),(2,vI most),(7,vI x_.1),(9,vI x2.2),(10,vI x_.2)] [] []) lS ?_))))
   rintro again5 ⟨x3,x4⟩ h
   refine qs (vj h (fun x_=>aX [(0,vM aC nest),(1,vM rI p),(2,vI most),(7,vI x3),(9,vI x2.2),(10,vI x4),(35,vB x_)] [] []) (fun j6 h=> ?_) (fun x7 h=> ?_))
   ·
    refine aQ h (fun c2 h=> ?_) (fun c2 h=> ?_)
    ·exact rk hC (rF 4 c2) (fr 28 8) [(35,vB false)] [] [] (lE h)
    ·exact rk hC (rT 4 c2) (fr 28 8) [(35,vB (decide (x3≤most)))] [] [] (lE h)
   ·refine aS h (fun c3 h=> ?_) (fun c3 h=> ?_)
    ·refine qk (qs (qb ?_))
     obtain⟨x8,hx8,x9,hx9,x10,hx10,h⟩:=kX h
     exact rk hC [.z (.nat 20),oA (aP rI hx8),.z (.int 0),oQ (bW (r:=rI) 1 (fun _=>rfl) []),oQ (bW (r:=rI) 1 (fun _=>rfl) p),oA (aP rI hx9),.z (.b (true)),oQ (bW (r:=rI) 1 (fun _=>rfl) x8),oQ (bW (r:=rI) 1 (fun _=>rfl) [x4]),oV (ih nest x9 (wr (most-x3)) hx10)] [7,38,39,40,41,42,43,44,45,46,47,48,49,50] [(7,vI (wr (x3+x10)))] [(20,some (ar 3 3 1 rI x9))] [(20,true)] (rk hC [] [10,36,37] [(10,vI (wr (x4+1)))] [] [] (lE h))
    ·obtain rfl:=so h
     exact cW (rq hC [] [6,51] [(6,vI x3)] [] [] (qr eR))
theorem aBl(G:GS): ∀(n:Nat) (out:List (List Int)) (outG:Nat) (nest:List Loop) (p:List Int) {r:(List (List Int))} (h:s_l2Points n out nest p=some r),VQ G 191 [ar 48 outG 1 (rL rI) out] [ms 0 outG 1 (rL rI) out,vM aC nest,vM rI p] (ms 0 (outG+1) 1 (rL rI) r) [ar 48 (outG+1) 1 (rL rI) r]:=by
 intro n
 induction n with
 |zero=>intro out outG nest p r h;rw [s_l2Points.eq_def] at h;cases h
 |succ n ih=>
  intro out outG nest p r h
  rw [s_l2Points.eq_def] at h;dsimp only at h
  refine vq aO Tryz.func191 rfl fun w X β0 hC hg=> ?_
  refine rq hC [] [6] [] [] [] (qs (rq hC [oN rI p,oN aC nest] (fr 10 5) [(14,vB (decide ((p.length:Int)=(nest.length:Int))))] [] [] (aS h (fun c1 h=> ?_) (fun c1 h=> ?_))))
  ·obtain⟨x1,hx1,x2,hx2,h⟩:=cO h
   obtain rfl:=so h
   exact rq hC [.z (.nat 20),oA (aP rI hx1),.z (.at 3),.z (.fz 20 [18] []),.z (.int 0),oQ (bW (r:=rI) 1 (fun _=>rfl) []),oQ (bW (r:=rI) 1 (fun _=>rfl) p),oA (aP (rL rI) hx2),oQ (bW (r:=(rL rI)) 1 (fun _=>rfl) out),oQ (bW (r:=(rL rI)) 1 (fun _=>rfl) [x1])] [0,6,15,16,17,18,19,20] [(6,ms 0 (outG+1) 1 (rL rI) x2)] [(20,none),(0,some (ar 48 (outG+1) 1 (rL rI) x2))] [(20,true)] (qw (vC 6 0 outG (outG+1) 1 0 (List.map (rL rI) x2).length (e:= .arr 48 (outG+1) 1 (List.map (rL rI) x2)) rfl (by kernel_rfl) (by kernel_rfl) rfl rfl hg.1) (qr eW))
  ·refine qk ?_
   obtain⟨x3,hx3,x4,hx4,h⟩:=cO h
   refine rq hC [oN rI p,oR aC hx3,oV (F8 G hx4)] [7,8,21,22,23,24,25,26,27,28,29,30] [(7,vI x4.1),(8,vI x4.2)] [] [] (qs (rq hC [] [9,31] [(9,vI x4.1)] [] [] (qb (bF (γ:=Nat) h (fun x_ g_=>aX [(0,ms 0 g_ 1 (rL rI) x_.1),(1,vM aC nest),(2,vM rI p),(8,vI x4.2),(9,vI x_.2)] [(0,ar 48 g_ 1 (rL rI) x_.1)] [0]) outG (lS) ?_))))
   rintro again8 ⟨x5,x6⟩ g7 h
   refine qs (vj h (fun x_=>aX [(0,ms 0 g7 1 (rL rI) x5),(1,vM aC nest),(2,vM rI p),(8,vI x4.2),(9,vI x6),(39,vB x_)] [(0,ar 48 g7 1 (rL rI) x5)] [0]) (fun j9 h=> ?_) (fun x10 h=> ?_))
   ·
    refine aQ h (fun c2 h=> ?_) (fun c2 h=> ?_)
    ·exact rk hC (rF 4 c2) (fr 32 8) [(39,vB false)] [] [] (lE h)
    ·exact rk hC [oT c2,oT c2,oN (rL rI) x5,oT c2,oT c2] (fr 32 8) [(39,vB (decide ((x5.length:Int)≤120)))] [] [] (lE h)
   ·refine aS h (fun c3 h=> ?_) (fun c3 h=> ?_)
    ·refine qk (qs (qb ?_))
     obtain⟨x11,hx11,x12,hx12,x13,hx13,h⟩:=kX h
     exact rk hC [.z (.nat 20),oA (aP rI hx11),.z (.int 0),oQ (bW (r:=rI) 1 (fun _=>rfl) []),oQ (bW (r:=rI) 1 (fun _=>rfl) p),oA (aP rI hx12),.z (.at 2),.z (.fz 20 [49] []),oQ (bW (r:=rI) 1 (fun _=>rfl) x11),oQ (bW (r:=rI) 1 (fun _=>rfl) [x6]),oC [0] [] (ih x5 g7 nest x12 hx13)] [0,42,43,44,45,46,47,48,49,50] [(0,ms 0 (g7+1) 1 (rL rI) x13)] [(20,none),(0,some (ar 48 (g7+1) 1 (rL rI) x13))] [(20,true),(0,true)] (rk hC [] [9,40,41] [(9,vI (wr (x6+1)))] [] [] ⟨(x13,wr (x6+1)),(g7+1),h,lS⟩)
    ·obtain rfl:=so h
     exact cW (rq hC [] [6,51] [(6,ms 0 g7 1 (rL rI) x5)] [] [] (qw (vC 6 0 outG g7 1 0 (List.map (rL rI) x5).length (e:= .arr 48 g7 1 (List.map (rL rI) x5)) rfl (by kernel_rfl) (by kernel_rfl) rfl rfl hg.1) (qr eW)))
theorem T6{nest}{r}(h:lG n nest=some r):VQ G 240 [] [vM aC nest] (V.tup [ms 0 1 1 (rL rI) r.1,vB r.2]) [ar 48 1 1 (rL rI) r.1]:=by
 unfold lG at h
 refine vq aO Tryz.func240 rfl fun w X β0 hC hg=> ?_
 refine rq hC [] [2,3] [] [] [] (qs (vj h (fun x_=>aX [(0,vM aC nest),(12,vB x_)] [] []) (fun j1 h=> ?_) (fun x4 h=> ?_)))
 ·
  obtain⟨x2,hx2,h⟩:=bd h
  refine aQ h (fun c1 h=> ?_) (fun c1 h=> ?_)
  ·obtain⟨x3,hx3,h⟩:=bd h
   exact rk hC [oV (wI G hx2),oF c1,oF c1,oV (aEj G n nest [] 1200 hx3),oF c1,oF c1] (fr 5 8) [(12,vB (decide ((1200:Int)<x3)))] [] [] (lE h)
  ·exact rk hC ([oV (wI G hx2)]++rT 4 c1) (fr 5 8) [(12,vB true)] [] [] (lE h)
 ·refine aS h (fun c2 h=> ?_) (fun c2 h=> ?_)
  ·obtain rfl:=so h
   exact rq hC [.z (.nat 20)] [2,3,13] [(2,ms 20 1 1 (rL rI) []),(3,vB false)] [(20,some (ar 48 1 1 (rL rI) []))] [(20,true)] (qw (lk hC [.ren 2 20 0] [2] [(2,ms 0 1 1 (rL rI) [])] [(0,some (ar 48 1 1 (rL rI) [])),(20,none)] [(0,true)]) (qr eW))
  ·refine qk ?_
   obtain⟨x5,hx5,h⟩:=bd h
   refine rq hC [.z (.nat 20),oC [20] [] (aBl G n [] 1 nest [] hx5)] [4,14,15,16] [(4,ms 20 2 1 (rL rI) x5)] [(20,some (ar 48 2 1 (rL rI) x5))] [(20,true),(20,true)] (qs (rq hC [oN (rL rI) x5] [17,18,19] [(19,vB (decide ((120:Int)<(x5.length:Int))))] [] [] (aS h (fun c3 h=> ?_) (fun c3 h=> ?_))))
   ·obtain rfl:=so h
    exact rq hC [.z (.nat 21)] [2,3,20] [(2,ms 21 1 1 (rL rI) []),(3,vB false)] [(21,some (ar 48 1 1 (rL rI) []))] [(21,true)] (qw (lk hC [.ren 2 21 0] [2] [(2,ms 0 1 1 (rL rI) [])] [(0,some (ar 48 1 1 (rL rI) [])),(21,none)] [(0,true)]) (qr eW))
   ·obtain rfl:=so h
    exact qk (rq hC [] [2,3,21] [(2,ms 20 2 1 (rL rI) x5),(3,vB true)] [] [] (qw (lk hC [.ren 2 20 0] [2] [(2,ms 0 1 1 (rL rI) x5)] [(0,some (ar 48 1 1 (rL rI) x5)),(20,none)] [(0,true)]) (qr eW)))
theorem aEe{a}{r}(h:t2 n a=some r):PQ G 289 [V.agg [vS a.name,vM rI a.dims]] (vI r):=by
 unfold t2 at h
 refine pq aO Tryz.func289 rfl fun w X hC=> ?_
 refine rq hC [.z (.b (true))] [1,2] [(1,V.tp [T.str a.name,T.sl (List.map rI a.dims)])] [] [] (rq hC [] [3] [(3,vI 1)] [] [] (qs (rq hC [] [4] [(4,vI 0)] [] [] (qb (jN h (fun x_=>aX [(1,V.tp [T.str a.name,T.sl (List.map rI a.dims)]),(3,vI x_.1),(4,vI x_.2)] [] []) lS ?_)))))
 rintro again3 ⟨x1,x2⟩ h
 refine qs (rq hC [oN rI a.dims] (fr 5 5) [(9,vB (decide (x2<(a.dims.length:Int))))] [] [] (aS h (fun c1 h=> ?_) (fun c1 h=> ?_)))
 ·refine qk (qs (qb ?_))
  obtain⟨x4,hx4,h⟩:=bd h
  exact rk hC [oR rI hx4] [3,12,13,14,15,16,17,18] [(3,vI (wr (x1*x4)))] [] [] (rk hC [] [4,10,11] [(4,vI (wr (x2+1)))] [] [] (lE h))
 ·obtain rfl:=so h
  exact cW (rq hC [] [2,19] [(2,vI x1)] [] [] (qr eR))
theorem S3{list}{a}{point}{r}(h:qU n list a point=some r):PQ G 225 [vM aJ list,V.agg (cF a),vM rI point] (vI r):=by
 unfold qU at h
 refine pq aO Tryz.func225 rfl fun w X hC=> ?_
 refine rq hC [.z (.b (true))] [4,6] [(4,V.tp (dQ a))] [] [] (rq hC [] [7] [(7,vI 0)] [] [] (qs (rq hC [] [8] [(8,vI 0)] [] [] (qb (jN h (fun x_=>aX [(0,vM aJ list),(2,vM rI point),(4,V.tp (dQ a)),(7,vI x_.1),(8,vI x_.2)] [] []) lS ?_)))))
 rintro again3 ⟨x1,x2⟩ h
 refine qs (rq hC [oN aJ list] (fr 12 4) [(15,vB (decide (x2<(list.length:Int))))] [] [] (aS h (fun c1 h=> ?_) (fun c1 h=> ?_)))
 ·refine qk (qs (qb (qs (qs ?_))))
  obtain⟨x4,hx4,h⟩:=bd h
  refine dk hC bA [oR aJ hx4] (fr 18 8) [(25,vB (!decide (x4.name=a.array)))] [] [] (aS h (fun c2 h=> ?_) (fun c2 h=> ?_))
  ·obtain⟨x5,hx5,h⟩:=bd h
   exact rq hC [oR aJ hx4,oV (aEe G hx5)] [7,26,27,28,29,30,31,32] [(7,vI (wr (x1+x5)))] [] [] (cW (rk hC [] [8,16,17] [(8,vI (wr (x2+1)))] [] [] (lE h)))
  ·refine qk (rq hC [] [9] [(9,vI 0)] [] [] (qs (rq hC [] [10] [(10,vI 0)] [] [] (qb (jN h (fun x_=>aX [(0,vM aJ list),(2,vM rI point),(4,V.tp (dQ a)),(7,vI x1),(8,vI x2),(9,vI x_.1),(10,vI x_.2)] [] []) lS ?_)))))
   rintro again8 ⟨x6,x7⟩ h
   refine qs (rq hC [oN aA a.subs] (fr 33 5) [(37,vB (decide (x7<(a.subs.length:Int))))] [] [] (aS h (fun c3 h=> ?_) (fun c3 h=> ?_)))
   ·refine qk (qs (qb (qs (qs (dk hC bA [oN aA a.subs,oR aJ hx4,oN rI x4.dims] (fr 40 10) [(49,vB (!decide ((a.subs.length:Int)=(x4.dims.length:Int))))] [] [] ?_)))))
    refine aS h (fun c4 h=> ?_) (fun c4 h=> ?_)
    ·obtain rfl:=so h
     exact rq hC [] [6] [(6,vI (-1))] [] [] (qr eR)
    ·refine qk ?_
     obtain⟨x9,hx9,x10,hx10,h⟩:=cO h
     refine rq hC [oR aA hx9,oV (pO G hx10)] [11,50,51,52,53,54,55,56] [(11,vI x10)] [] [] (qs (vj h (fun x_=>aX [(0,vM aJ list),(2,vM rI point),(4,V.tp (dQ a)),(7,vI x1),(8,vI x2),(9,vI x6),(10,vI x7),(11,vI x10),(70,vB x_)] [] []) (fun j11 h=> ?_) (fun x13 h=> ?_)))
     ·
      refine aQ h (fun c5 h=> ?_) (fun c5 h=> ?_)
      ·obtain⟨x12,hx12,h⟩:=bd h
       exact rk hC (rF 4 c5++[oR aJ hx4]++rF 4 c5++[oR rI hx12]++rF 3 c5) (fr 57 14) [(70,vB (decide (x12≤x10)))] [] [] (lE h)
      ·exact rk hC (rT 11 c5) (fr 57 14) [(70,vB true)] [] [] (lE h)
     ·refine aS h (fun c6 h=> ?_) (fun c6 h=> ?_)
      ·obtain rfl:=so h
       exact rq hC [] [6] [(6,vI (-1))] [] [] (qr eR)
      ·refine qk ?_
       obtain⟨x14,hx14,h⟩:=bd h
       exact rk hC [oR aJ hx4,oR rI hx14] [9,71,72,73,74,75,76,77,78,79,80,81,82] [(9,vI (wr ((wr (x6*x14))+x10)))] [] [] (rk hC [] [10,38,39] [(10,vI (wr (x7+1)))] [] [] (lE h))
   ·obtain rfl:=so h
    exact cW (rq hC [] [6,83,84,85] [(6,vI (wr (x1+x6)))] [] [] (qr eR))
 ·obtain rfl:=so h
  exact cW (rq hC [] [6] [(6,vI (-1))] [] [] (qr eR))
theorem mI{a}{r}(h:eS n a=some r):VQ G 247 [] [V.agg (aK a)] (V.agg [ms 0 1 1 rI r.coefs,vI r.const]) [ar 3 1 1 rI r.coefs]:=by
 unfold eS at h
 refine vq aO Tryz.func247 rfl fun w X β0 hC hg=> ?_
 refine rq hC [.z (.b (true)),.z (.nat 20)] [1,2] [(1,V.tp (aT a)),(2,V.ref 20 0)] [(20,sc [V.t T.nilS,vI 0])] [(20,true)] (qs (rq hC [oN rI a.coefs] (fr 3 4) [(6,vB (decide ((a.coefs.length:Int)=0)))] [] [] (aS h (fun c1 h=> ?_) (fun c1 h=> ?_))))
 ·obtain rfl:=so h
  exact rq hC [] [7,8,9] [] [(20,sc [V.t T.nilS,vI a.const])] [] (qw (lk hC [.growc 20 0 21 3] [] [] [(21,some (ar 3 1 1 rI [])),(20,sc [ms 21 1 1 rI [],vI a.const])] [(21,true)]) (qw (lk hC [.rn 21 0 [] [20]] [] [] [(20,sc [ms 0 1 1 rI [],vI a.const]),(21,none),(0,some (ar 3 1 1 rI []))] [(0,true)]) (qr eW)))
 ·refine qk (qs ?_)
  obtain⟨x1,hx1,h⟩:=bd h
  obtain rfl:=so h
  exact dk hC bA [.z (.nat 21),oA (aP rI hx1),oQ (bW (r:=rI) 1 (fun _=>rfl) []),oQ (bW (r:=rI) 1 (fun _=>rfl) a.coefs)] (fr 10 7) [] [(21,some (ar 3 2 1 rI x1)),(20,sc [ms 21 2 1 rI x1,vI a.const])] [(21,true)] (qw (lk hC [.rn 21 0 [] [20]] [] [] [(20,sc [ms 0 1 1 rI x1,vI a.const]),(21,none),(0,some (ar 3 1 1 rI x1))] [(0,true)]) (qr eW))
theorem mJ{a}{r}(h:eU n a=some r):VQ G 166 [] [V.agg (cF a)] (V.agg [vS r.array,ms 0 1 2 aA r.subs]) [ar 79 1 2 aA r.subs]:=by
 unfold eU at h
 refine vq aO Tryz.func166 rfl fun w X β0 hC hg=> ?_
 refine rq hC [.z (.b (true)),.z (.nat 20)] [1,2] [(1,V.tp (dQ a)),(2,V.ref 20 0)] [(20,sc [vS [],V.t T.nilS])] [(20,true)] (rq hC [.z (.nat 21)] [3,5,6,7] [(3,V.ref 21 0)] [(21,sc [vS a.array,V.t T.nilS])] [(21,true)] (qs (rq hC [] [4] [(4,vI 0)] [] [] (qb (qw (lk hC [.growc 21 1 22 79] [] [] [(22,some (ar 79 1 2 aA [])),(21,sc [vS a.array,ms 22 1 2 aA []])] [(22,true)]) ?_)))))
 refine bF (γ:=Nat) h (fun x_ g_=>aX [(1,V.tp (dQ a)),(2,V.ref 20 0),(3,V.ref 21 0),(4,vI x_.2)] [(20,E.cells [vS [],V.t T.nilS]),(21,E.cells [vS a.array,ms 22 g_ 2 aA x_.1]),(22,ar 79 g_ 2 aA x_.1)] [20,21,22]) 1 (lS) ?_
 rintro again4 ⟨x1,x2⟩ g3 h
 refine qs (rq hC [oN aA a.subs] (fr 8 5) [(12,vB (decide (x2<(a.subs.length:Int))))] [] [] (aS h (fun c1 h=> ?_) (fun c1 h=> ?_)))
 ·refine qk (qs (qb ?_))
  obtain⟨x5,hx5,x6,hx6,x7,hx7,h⟩:=kX h
  exact dk hC bA [oR aA hx5,oC [] [23] (mI G hx6),.z (.at 4),.z (.fz 23 [22] []),.z (.int 0),oA (aP aA hx7),oQ (bW (r:=aA) 2 aW x1),oQ (bW (r:=aA) 2 aW [x6])] (fr 15 11) [] [(23,none),(22,some (ar 79 (g3+1) 2 aA x7)),(21,sc [vS a.array,ms 22 (g3+1) 2 aA x7])] [(23,true)] (rk hC [] [4,13,14] [(4,vI (wr (x2+1)))] [] [] ⟨(x7,wr (x2+1)),(g3+1),h,lS⟩)
 ·obtain rfl:=so h
  exact cW (rq hC [] [26] [] [(20,sc [vS a.array,ms 22 g3 2 aA x1])] [] (qw (lk hC [.rn 22 0 [] [20,21]] [] [] [(20,sc [vS a.array,ms 0 1 2 aA x1]),(21,sc [vS a.array,ms 0 1 2 aA x1]),(22,none),(0,some (ar 79 1 2 aA x1))] [(0,true)]) (qr eW)))
theorem aCF(G:GS): ∀(n:Nat) (out:List Access) (outG:Nat) (e:Expr) {r:(List Access)} (h:s_l3Reads n out e=some r),VQ G 301 [ar 77 outG 2 aU out] [ms 0 outG 2 aU out,V.agg (cU e)] (ms 0 (outG+1) 2 aU r) [ar 77 (outG+1) 2 aU r]:=by
 intro n
 induction n with
 |zero=>intro out outG e r h;rw [s_l3Reads.eq_def] at h;cases h
 |succ n ih=>
  intro out outG e r h
  rw [s_l3Reads.eq_def] at h;dsimp only at h
  refine vq aO Tryz.func301 rfl fun w X β0 hC hg=> ?_
  refine rq hC [.z (.b (true))] [3,4] [(3,V.tp (fI e))] [] [] ?_
  obtain⟨j1,hj1,h⟩:=W0 h
  refine oU (γ:=Nat) (j:=j1) (r:=r) (fun x_ g_=>aX [(0,ms 0 g_ 2 aU x_),(3,V.tp (fI e))] [(0,ar 77 g_ 2 aU x_)] [0]) ?_ ?_
  ·
   refine rq hC [] [6,7,8] [(8,vB (decide (e.kind=3)))] [] [] (aS h (fun c1 h=> ?_) (fun c1 h=> ?_))
   ·obtain⟨x2,hx2,x3,hx3,h⟩:=cO h
    exact rk hC [oC [] [20] (mJ G hx2),.z (.at 3),.z (.fz 20 [12] []),.z (.int 0),oA (aP aU hx3),oQ (bW (r:=aU) 2 pU out),oQ (bW (r:=aU) 2 pU [x2])] [0,9,10,11,12,13,14] [(0,ms 0 (outG+1) 2 aU x3)] [(20,none),(0,some (ar 77 (outG+1) 2 aU x3))] [(20,true)] ⟨x3,(outG+1),h,lS⟩
   ·exact qk ⟨out,outG,h,lS⟩
  ·rintro x4 g5 h
   subst hj1
   refine qs (rq hC [] [5] [(5,vI 0)] [] [] (qb (bF (γ:=Nat) h (fun x_ g_=>aX [(0,ms 0 g_ 2 aU x_.1),(3,V.tp (fI e)),(5,vI x_.2)] [(0,ar 77 g_ 2 aU x_.1)] [0]) g5 (lS) ?_)))
   rintro again9 ⟨x6,x7⟩ g8 h
   refine qs (rq hC [oN aI e.kids] (fr 15 5) [(19,vB (decide (x7<(e.kids.length:Int))))] [] [] (aS h (fun c2 h=> ?_) (fun c2 h=> ?_)))
   ·refine qk (qs (qb ?_))
    obtain⟨x10,hx10,x11,hx11,h⟩:=cO h
    exact rk hC [.z (.row (eC x10)),oQ (eZ aI hx10 (cQ x10)),oC [0] [] (ih x6 g8 x10 hx11)] [0,22,23,24,25,26,27,28] [(0,ms 0 (g8+1) 2 aU x11)] [(0,some (ar 77 (g8+1) 2 aU x11))] [(0,true)] (rk hC [] [5,20,21] [(5,vI (wr (x7+1)))] [] [] ⟨(x11,wr (x7+1)),(g8+1),h,lS⟩)
   ·obtain rfl:=so h
    exact cW (rq hC [] [4,29] [(4,ms 0 g8 2 aU x6)] [] [] (qw (vC 4 0 outG g8 2 0 (List.map aU x6).length (e:= .arr 77 g8 2 (List.map aU x6)) rfl (by kernel_rfl) (by kernel_rfl) rfl rfl hg.1) (qr eW)))
theorem aCA{list}{s}{point}{r}(h:qT n list s point=some r):VQ G 241 [] [vM aJ list,V.agg (cS s),vM rI point] (V.tup [ms 0 1 1 rI r.1,vI r.2.1,vB r.2.2]) [ar 3 1 1 rI r.1]:=by
 unfold qT at h
 refine vq aO Tryz.func241 rfl fun w X β0 hC hg=> ?_
 refine rq hC [.z (.b (true))] [4,6,7,8] [(4,V.tp (oW s))] [] [] (rq hC [.z (.nat 20)] [9,14] [(9,ms 20 1 1 rI [])] [(20,some (ar 3 1 1 rI []))] [(20,true)] ?_)
 obtain⟨x1,hx1,h⟩:=bd h
 refine rq hC [.z (.nat 21),oC [21] [] (aCF G n [] 1 s.value hx1)] [10,15,16,17,18] [(10,ms 21 2 2 aU x1)] [(21,some (ar 77 2 2 aU x1))] [(21,true),(21,true)] (qs (rq hC [] [11] [(11,vI 0)] [] [] (qb (bF (γ:=Nat) h (fun x_ g_=>aX [(0,vM aJ list),(2,vM rI point),(4,V.tp (oW s)),(9,ms 20 g_ 1 rI x_.1),(10,ms 21 2 2 aU x1),(11,vI x_.2)] [(20,ar 3 g_ 1 rI x_.1),(21,ar 77 2 2 aU x1)] [20,21]) 1 (lS) ?_))))
 rintro again5 ⟨x2,x3⟩ g4 h
 refine qs (rq hC [oN aU x1] (fr 19 4) [(22,vB (decide (x3<(x1.length:Int))))] [] [] (aS h (fun c1 h=> ?_) (fun c1 h=> ?_)))
 ·refine qk (qs (qb ?_))
  obtain⟨x6,hx6,x7,hx7,h⟩:=cO h
  refine rq hC [oQ (mO aU hx6),oX aU hx6,oV (S3 G hx7)] [12,25,26,27,28,29,30,31] [(12,vI x7)] [] [] (qs (rq hC [] [32,33] [(33,vB (decide (x7<0)))] [] [] (aS h (fun c2 h=> ?_) (fun c2 h=> ?_))))
  ·obtain rfl:=so h
   exact rq hC [.z (.nat 22)] [6,7,8,34] [(6,ms 22 1 1 rI []),(7,vI 0),(8,vB false)] [(22,some (ar 3 1 1 rI []))] [(22,true)] (qw (lk hC [.ren 6 22 0] [6] [(6,ms 0 1 1 rI [])] [(0,some (ar 3 1 1 rI [])),(22,none)] [(0,true)]) (qr eW))
  ·refine qk ?_
   obtain⟨x8,hx8,h⟩:=bd h
   exact rk hC [.z (.int 0),oA (aP rI hx8),oQ (bW (r:=rI) 1 (fun _=>rfl) x2),oQ (bW (r:=rI) 1 (fun _=>rfl) [x7])] [9,35,36,37,38] [(9,ms 20 (g4+1) 1 rI x8)] [(20,some (ar 3 (g4+1) 1 rI x8))] [] (rk hC [] [11,23,24] [(11,vI (wr (x3+1)))] [] [] ⟨(x8,wr (x3+1)),(g4+1),h,lS⟩)
 ·refine cW ?_
  obtain⟨x9,hx9,h⟩:=bd h
  refine rq hC [oV (S3 G hx9)] [13,39,40,41,42,43] [(13,vI x9)] [] [] (qs (rq hC [] [44,45] [(45,vB (decide (x9<0)))] [] [] (aS h (fun c3 h=> ?_) (fun c3 h=> ?_))))
  ·obtain rfl:=so h
   exact rq hC [.z (.nat 22)] [6,7,8,46] [(6,ms 22 1 1 rI []),(7,vI 0),(8,vB false)] [(22,some (ar 3 1 1 rI []))] [(22,true)] (qw (lk hC [.ren 6 22 0] [6] [(6,ms 0 1 1 rI [])] [(0,some (ar 3 1 1 rI [])),(22,none)] [(0,true)]) (qr eW))
  ·obtain rfl:=so h
   exact qk (rq hC [] [6,7,8,47,48] [(6,ms 20 g4 1 rI x2),(7,vI x9),(8,vB true)] [] [] (qw (lk hC [.ren 6 20 0] [6] [(6,ms 0 1 1 rI x2)] [(0,some (ar 3 1 1 rI x2)),(20,none)] [(0,true)]) (qr eW)))
theorem aCJ{p}{r}(h:qW n p=some r):PQ G 242 [vM rI p] (vB r):=by
 unfold qW at h
 refine pq aO Tryz.func242 rfl fun w X hC=> ?_
 refine rq hC [] [2] [] [] [] (qs (rq hC [] [3] [(3,vI 0)] [] [] (qb (jN h (fun x_=>aX [(0,vM rI p),(3,vI x_)] [] []) lS ?_))))
 rintro again2 x1 h
 refine qs (rq hC [oN rI p] (fr 4 4) [(7,vB (decide (x1<(p.length:Int))))] [] [] (aS h (fun c1 h=> ?_) (fun c1 h=> ?_)))
 ·refine qk (qs (qb ?_))
  obtain⟨x3,hx3,x4,hx4,h⟩:=cO h
  refine rq hC [oR rI hx3,oV (s9 G hx4)] (fr 10 6) [(15,vB (!x4))] [] [] (aS h (fun c2 h=> ?_) (fun c2 h=> ?_))
  ·obtain rfl:=so h
   exact rq hC [] [2] [(2,vB false)] [] [] (qr eR)
  ·exact qk (rk hC [] [3,8,9] [(3,vI (wr (x1+1)))] [] [] (lE h))
 ·obtain rfl:=so h
  exact cW (rq hC [oN rI p] [2,16,17,18] [(2,vB (decide ((p.length:Int)≤4)))] [] [] (qr eR))
theorem sZ{a}{depth}{r}(h:l7 n a depth=some r):PQ G 244 [V.agg (cF a),vI depth] (vB r):=by
 unfold l7 at h
 refine pq aO Tryz.func244 rfl fun w X hC=> ?_
 refine rq hC [.z (.b (true))] [2,4] [(2,V.tp (dQ a))] [] [] (qs (rq hC [] [5] [(5,vI 0)] [] [] (qb (jN h (fun x_=>aX [(1,vI depth),(2,V.tp (dQ a)),(5,vI x_)] [] []) lS ?_))))
 rintro again2 x1 h
 refine qs (rq hC [oN aA a.subs] (fr 6 5) [(10,vB (decide (x1<(a.subs.length:Int))))] [] [] (aS h (fun c1 h=> ?_) (fun c1 h=> ?_)))
 ·refine qk (qs (qb (vj h (fun x_=>aX [(1,vI depth),(2,V.tp (dQ a)),(5,vI x1),(29,vB x_)] [] []) (fun j3 h=> ?_) (fun x7 h=> ?_))))
  ·
   obtain⟨x4,hx4,x5,hx5,h⟩:=cO h
   refine aQ h (fun c2 h=> ?_) (fun c2 h=> ?_)
   ·obtain⟨x6,hx6,h⟩:=bd h
    exact rk hC ([oR aA hx4,oV (eE G hx5)]++rF 4 c2++[oR aA hx4,oF c2,oF c2,oV (nD G hx6)]++rF 3 c2) (fr 13 17) [(29,vB (decide (depth<x6)))] [] [] (lE h)
   ·exact rk hC ([oR aA hx4,oV (eE G hx5)]++rT 9 c2) (fr 13 17) [(29,vB true)] [] [] (lE h)
  ·refine aS h (fun c3 h=> ?_) (fun c3 h=> ?_)
   ·obtain rfl:=so h
    exact rq hC [] [4] [(4,vB false)] [] [] (qr eR)
   ·exact qk (rk hC [] [5,11,12] [(5,vI (wr (x1+1)))] [] [] (lE h))
 ·refine cW (vj h (fun x_=>aX [(4,vB x_)] [] []) (fun j8 h=> ?_) (fun x9 h=> ?_))
  ·
   refine aQ h (fun c4 h=> ?_) (fun c4 h=> ?_)
   ·exact rk hC (rF 4 c4++sF 14) [4,30,31,32,33,34,35,36,37,38,39,40,41,42,43,44,45,46,47,48,49,50,51,52,53,54,55] [(4,vB false)] [] [] (lE h)
   ·refine aQ h (fun c5 h=> ?_) (fun c5 h=> ?_)
    ·exact rk hC (rT 4 c4++rF 4 c5++sF 10) [4,30,31,32,33,34,35,36,37,38,39,40,41,42,43,44,45,46,47,48,49,50,51,52,53,54,55] [(4,vB false)] [] [] (lE h)
    ·refine aQ h (fun c6 h=> ?_) (fun c6 h=> ?_)
     ·exact rk hC (rT 4 c4++rT 4 c5++rF 5 c6++sF 5) [4,30,31,32,33,34,35,36,37,38,39,40,41,42,43,44,45,46,47,48,49,50,51,52,53,54,55] [(4,vB false)] [] [] (lE h)
     ·refine aQ h (fun c7 h=> ?_) (fun c7 h=> ?_)
      ·exact rk hC (rT 4 c4++rT 4 c5++rT 3 c6++[oN aA a.subs,oT c6,oT c6]++rF 5 c7) [4,30,31,32,33,34,35,36,37,38,39,40,41,42,43,44,45,46,47,48,49,50,51,52,53,54,55] [(4,vB false)] [] [] (lE h)
      ·exact rk hC (rT 4 c4++rT 4 c5++rT 3 c6++[oN aA a.subs,oT c6,oT c6]++rT 3 c7++[oN aA a.subs,oT c7,oT c7]) [4,30,31,32,33,34,35,36,37,38,39,40,41,42,43,44,45,46,47,48,49,50,51,52,53,54,55] [(4,vB (decide ((a.subs.length:Int)≤2)))] [] [] (lE h)
  ·obtain rfl:=so h
   exact qr eR
theorem S5{kind}{r}(h:uB n kind=some r):PQ G 304 [vI kind] (vI r):=by
 unfold uB at h
 refine pq aO Tryz.func304 rfl fun w X hC=> ?_
 refine rq hC [] [2] [] [] [] (qs (rq hC [] [3] [(3,vI kind)] [] [] (qb (vj h (fun x_=>aX [(3,vI kind),(4,vB x_)] [] []) (fun j1 h=> ?_) (fun x2 h=> ?_)))))
 ·
  refine rq hC [] [4,5] [(4,vB (decide (kind=1)))] [] [] (aS h (fun c1 h=> ?_) (fun c1 h=> ?_))
  ·exact qk (lE h)
  ·refine rq hC [] [4,6] [(4,vB (decide (kind=2)))] [] [] (aS h (fun c2 h=> ?_) (fun c2 h=> ?_))
   ·exact qk (lE h)
   ·exact rk hC [] [4,7] [(4,vB (decide (kind=3)))] [] [] (lE h)
 ·refine aS h (fun c3 h=> ?_) (fun c3 h=> ?_)
  ·obtain rfl:=so h
   exact rq hC [] [2] [(2,vI 0)] [] [] (qr eR)
  ·refine vj h (fun x_=>aX [(8,vB x_)] [] []) (fun j3 h=> ?_) (fun x4 h=> ?_)
   ·
    refine rq hC [] [8,9] [(8,vB (decide (kind=4)))] [] [] (aS h (fun c4 h=> ?_) (fun c4 h=> ?_))
    ·exact qk (lE h)
    ·refine rq hC [] [8,10] [(8,vB (decide (kind=5)))] [] [] (aS h (fun c5 h=> ?_) (fun c5 h=> ?_))
     ·exact qk (lE h)
     ·exact rk hC [] [8,11] [(8,vB (decide (kind=6)))] [] [] (lE h)
   ·refine aS h (fun c6 h=> ?_) (fun c6 h=> ?_)
    ·obtain rfl:=so h
     exact rq hC [] [2] [(2,vI 2)] [] [] (qr eR)
    ·obtain rfl:=so h
     exact qk (rq hC [] [2] [(2,vI (-1))] [] [] (qr eR))
theorem nC{a}{r}(h:l6 n a=some r):PQ G 342 [V.agg (cF a)] (vB r):=by
 unfold l6 at h
 refine pq aO Tryz.func342 rfl fun w X hC=> ?_
 refine rq hC [.z (.b (true))] [1,2] [(1,V.tp (dQ a))] [] [] (vj h (fun x_=>aX [(2,vB x_)] [] []) (fun j1 h=> ?_) (fun x2 h=> ?_))
 ·
  refine aQ h (fun c1 h=> ?_) (fun c1 h=> ?_)
  ·exact rk hC (rF 5 c1) (fr 2 10) [(2,vB false)] [] [] (lE h)
  ·exact rk hC (rT 3 c1++[oN aA a.subs,oT c1,oT c1]) (fr 2 10) [(2,vB (decide ((a.subs.length:Int)=0)))] [] [] (lE h)
 ·obtain rfl:=so h
  exact qr eR
theorem mH{a}{r}(h:o6 n a=some r):PQ G 343 [V.agg (aK a)] (vB r):=by
 unfold o6 at h
 refine pq aO Tryz.func343 rfl fun w X hC=> ?_
 refine rq hC [.z (.b (true))] [1,2] [(1,V.tp (aT a))] [] [] (vj h (fun x_=>aX [(2,vB x_)] [] []) (fun j1 h=> ?_) (fun x2 h=> ?_))
 ·
  refine aQ h (fun c1 h=> ?_) (fun c1 h=> ?_)
  ·exact rk hC ([oN rI a.coefs]++rF 4 c1) (fr 2 10) [(2,vB false)] [] [] (lE h)
  ·exact rk hC ([oN rI a.coefs]++rT 4 c1) (fr 2 10) [(2,vB (decide (a.const=0)))] [] [] (lE h)
 ·obtain rfl:=so h
  exact qr eR
theorem aFY{e}{depth}{r}(h:xZ n e depth=some r):PQ G 305 [V.agg (cU e),vI depth] (vB r):=by
 unfold xZ at h
 refine pq aO Tryz.func305 rfl fun w X hC=> ?_
 refine rq hC [.z (.b (true))] [2,4] [(2,V.tp (fI e))] [] [] (qs (rq hC [] [5,6,7] [(7,vB (decide (e.kind=2)))] [] [] (aS h (fun c1 h=> ?_) (fun c1 h=> ?_))))
 ·refine vj h (fun x_=>aX [(4,vB x_)] [] []) (fun j1 h=> ?_) (fun x5 h=> ?_)
  ·
   refine aQ h (fun c2 h=> ?_) (fun c2 h=> ?_)
   ·exact rk hC (rF 4 c2++sF 10) [4,8,9,10,11,12,13,14,15,16,17,18,19,20,21,22,23,24,25,26,27] [(4,vB false)] [] [] (lE h)
   ·obtain⟨x2,hx2,h⟩:=bd h
    refine aQ h (fun c3 h=> ?_) (fun c3 h=> ?_)
    ·exact rk hC (rT 3 c2++[oV (nC G hx2),oT c2]++rF 4 c3++sF 6) [4,8,9,10,11,12,13,14,15,16,17,18,19,20,21,22,23,24,25,26,27] [(4,vB false)] [] [] (lE h)
    ·obtain⟨x3,hx3,h⟩:=bd h
     refine aQ h (fun c4 h=> ?_) (fun c4 h=> ?_)
     ·exact rk hC (rT 3 c2++[oV (nC G hx2),oT c2]++rT 3 c3++[oV (eE G hx3),oT c3]++rF 6 c4) [4,8,9,10,11,12,13,14,15,16,17,18,19,20,21,22,23,24,25,26,27] [(4,vB false)] [] [] (lE h)
     ·obtain⟨x4,hx4,h⟩:=bd h
      exact rk hC (rT 3 c2++[oV (nC G hx2),oT c2]++rT 3 c3++[oV (eE G hx3),oT c3]++rT 3 c4++[oV (nD G hx4)]++rT 3 c4) [4,8,9,10,11,12,13,14,15,16,17,18,19,20,21,22,23,24,25,26,27] [(4,vB (decide (x4≤depth)))] [] [] (lE h)
  ·obtain rfl:=so h
   exact qr eR
 ·refine qk (qs (rq hC [] [28,29,30] [(30,vB (decide (e.kind=3)))] [] [] (aS h (fun c5 h=> ?_) (fun c5 h=> ?_))))
  ·refine vj h (fun x_=>aX [(4,vB x_)] [] []) (fun j6 h=> ?_) (fun x9 h=> ?_)
   ·
    refine aQ h (fun c6 h=> ?_) (fun c6 h=> ?_)
    ·exact rk hC (rF 4 c6++sF 5) [4,31,32,33,34,35,36,37,38,39,40,41,42,43,44] [(4,vB false)] [] [] (lE h)
    ·obtain⟨x7,hx7,h⟩:=bd h
     refine aQ h (fun c7 h=> ?_) (fun c7 h=> ?_)
     ·exact rk hC (rT 3 c6++[oV (mH G hx7),oT c6]++rF 5 c7) [4,31,32,33,34,35,36,37,38,39,40,41,42,43,44] [(4,vB false)] [] [] (lE h)
     ·obtain⟨x8,hx8,h⟩:=bd h
      exact rk hC (rT 3 c6++[oV (mH G hx7),oT c6]++rT 4 c7++[oV (sZ G hx8),oT c7]) [4,31,32,33,34,35,36,37,38,39,40,41,42,43,44] [(4,vB x8)] [] [] (lE h)
   ·obtain rfl:=so h
    exact qr eR
  ·refine qk (qs (rq hC [] [45,46,47] [(47,vB (decide (e.kind=1)))] [] [] (aS h (fun c8 h=> ?_) (fun c8 h=> ?_))))
   ·refine vj h (fun x_=>aX [(4,vB x_)] [] []) (fun j10 h=> ?_) (fun x13 h=> ?_)
    ·
     refine aQ h (fun c9 h=> ?_) (fun c9 h=> ?_)
     ·exact rk hC (rF 4 c9++sF 8) [4,48,49,50,51,52,53,54,55,56,57,58,59,60,61,62,63,64,65] [(4,vB false)] [] [] (lE h)
     ·refine aQ h (fun c10 h=> ?_) (fun c10 h=> ?_)
      ·exact rk hC (rT 4 c9++rF 4 c10++sF 4) [4,48,49,50,51,52,53,54,55,56,57,58,59,60,61,62,63,64,65] [(4,vB false)] [] [] (lE h)
      ·obtain⟨x11,hx11,h⟩:=bd h
       refine aQ h (fun c11 h=> ?_) (fun c11 h=> ?_)
       ·exact rk hC (rT 4 c9++rT 3 c10++[oV (mH G hx11),oT c10]++rF 4 c11) [4,48,49,50,51,52,53,54,55,56,57,58,59,60,61,62,63,64,65] [(4,vB false)] [] [] (lE h)
       ·obtain⟨x12,hx12,h⟩:=bd h
        exact rk hC (rT 4 c9++rT 3 c10++[oV (mH G hx11),oT c10]++rT 3 c11++[oV (nC G hx12),oT c11]) [4,48,49,50,51,52,53,54,55,56,57,58,59,60,61,62,63,64,65] [(4,vB x12)] [] [] (lE h)
    ·obtain rfl:=so h
     exact qr eR
   ·refine qk (vj h (fun x_=>aX [(4,vB x_)] [] []) (fun j14 h=> ?_) (fun x17 h=> ?_))
    ·
     refine aQ h (fun c12 h=> ?_) (fun c12 h=> ?_)
     ·exact rk hC (rF 4 c12++sF 4) [4,66,67,68,69,70,71,72,73,74,75,76,77,78] [(4,vB false)] [] [] (lE h)
     ·obtain⟨x15,hx15,h⟩:=bd h
      refine aQ h (fun c13 h=> ?_) (fun c13 h=> ?_)
      ·exact rk hC (rT 3 c12++[oV (mH G hx15),oT c12]++rF 4 c13) [4,66,67,68,69,70,71,72,73,74,75,76,77,78] [(4,vB false)] [] [] (lE h)
      ·obtain⟨x16,hx16,h⟩:=bd h
       exact rk hC (rT 3 c12++[oV (mH G hx15),oT c12]++rT 3 c13++[oV (nC G hx16),oT c13]) [4,66,67,68,69,70,71,72,73,74,75,76,77,78] [(4,vB x16)] [] [] (lE h)
    ·obtain rfl:=so h
     exact qr eR
theorem aCD(G:GS): ∀(n:Nat) (e:Expr) (depth:Int) (levels:Int) {r:Bool} (h:s_l3Shape n e depth levels=some r),PQ G 245 [V.agg (cU e),vI depth,vI levels] (vB r):=by
 intro n
 induction n with
 |zero=>intro e depth levels r h;rw [s_l3Shape.eq_def] at h;cases h
 |succ n ih=>
  intro e depth levels r h
  rw [s_l3Shape.eq_def] at h;dsimp only at h
  refine pq aO Tryz.func245 rfl fun w X hC=> ?_
  refine rq hC [.z (.b (true))] [3,6] [(3,V.tp (fI e))] [] [] (qs (vj h (fun x_=>aX [(1,vI depth),(2,vI levels),(3,V.tp (fI e)),(24,vB x_)] [] []) (fun j1 h=> ?_) (fun x4 h=> ?_)))
  ·
   refine aQ h (fun c1 h=> ?_) (fun c1 h=> ?_)
   ·obtain⟨x2,hx2,h⟩:=bd h
    refine aQ h (fun c2 h=> ?_) (fun c2 h=> ?_)
    ·obtain⟨x3,hx3,h⟩:=bd h
     exact dk hC bA (rF 3 c1++[oV (S5 G hx2)]++rF 3 c1++[oN aI e.kids,oF c1,oF c1]++rF 3 c2++[oV (aFY G hx3),oF c2,oF c2]) (fr 8 17) [(24,vB (!x3))] [] [] (lE h)
    ·exact dk hC bA (rF 3 c1++[oV (S5 G hx2)]++rF 3 c1++[oN aI e.kids,oF c1,oF c1]++rT 5 c2) (fr 8 17) [(24,vB true)] [] [] (lE h)
   ·exact dk hC bA (rT 8 c1++sT 5) (fr 8 17) [(24,vB true)] [] [] (lE h)
  ·refine aS h (fun c3 h=> ?_) (fun c3 h=> ?_)
   ·obtain rfl:=so h
    exact rq hC [] [6] [(6,vB false)] [] [] (qr eR)
   ·refine qk (qs (rq hC [] [7] [(7,vI 0)] [] [] (qb (jN h (fun x_=>aX [(1,vI depth),(2,vI levels),(3,V.tp (fI e)),(7,vI x_)] [] []) lS ?_))))
    rintro again6 x5 h
    refine qs (rq hC [oN aI e.kids] (fr 25 5) [(29,vB (decide (x5<(e.kids.length:Int))))] [] [] (aS h (fun c4 h=> ?_) (fun c4 h=> ?_)))
    ·refine qk (qs (qb ?_))
     obtain⟨x7,hx7,x8,hx8,h⟩:=cO h
     refine rq hC [.z (.row (eC x7)),oQ (eZ aI hx7 (cQ x7)),oV (ih x7 depth (wr (levels-1)) hx8)] (fr 32 10) [(41,vB (!x8))] [] [] (aS h (fun c5 h=> ?_) (fun c5 h=> ?_))
     ·obtain rfl:=so h
      exact rq hC [] [6] [(6,vB false)] [] [] (qr eR)
     ·exact qk (rk hC [] [7,30,31] [(7,vI (wr (x5+1)))] [] [] (lE h))
    ·obtain rfl:=so h
     exact cW (rq hC [] [6] [(6,vB true)] [] [] (qr eR))
theorem aCH(G:GS): ∀(n:Nat) (e:Expr) (levels:Int) {r:Int} (h:s_l3Count n e levels=some r),PQ G 246 [V.agg (cU e),vI levels] (vI r):=by
 intro n
 induction n with
 |zero=>intro e levels r h;rw [s_l3Count.eq_def] at h;cases h
 |succ n ih=>
  intro e levels r h
  rw [s_l3Count.eq_def] at h;dsimp only at h
  refine pq aO Tryz.func246 rfl fun w X hC=> ?_
  refine rq hC [.z (.b (true))] [2,4] [(2,V.tp (fI e))] [] [] (rq hC [] [5] [(5,vI 1)] [] [] (qs (rq hC [] [6] [(6,vI 0)] [] [] (qb (jN h (fun x_=>aX [(1,vI levels),(2,V.tp (fI e)),(5,vI x_.1),(6,vI x_.2)] [] []) lS ?_)))))
  rintro again3 ⟨x1,x2⟩ h
  refine qs (vj h (fun x_=>aX [(1,vI levels),(2,V.tp (fI e)),(5,vI x1),(6,vI x2),(15,vB x_)] [] []) (fun j4 h=> ?_) (fun x5 h=> ?_))
  ·
   refine aQ h (fun c1 h=> ?_) (fun c1 h=> ?_)
   ·exact rk hC ([oN aI e.kids]++rF 3 c1) (fr 7 9) [(15,vB false)] [] [] (lE h)
   ·exact rk hC ([oN aI e.kids]++rT 3 c1) (fr 7 9) [(15,vB (decide ((0:Int)<levels)))] [] [] (lE h)
  ·refine aS h (fun c2 h=> ?_) (fun c2 h=> ?_)
   ·refine qk (qs (qb ?_))
    obtain⟨x6,hx6,x7,hx7,h⟩:=cO h
    exact rk hC [.z (.row (eC x6)),oQ (eZ aI hx6 (cQ x6)),oV (ih x6 (wr (levels-1)) hx7)] [5,18,19,20,21,22,23,24,25,26,27] [(5,vI (wr (x1+x7)))] [] [] (rk hC [] [6,16,17] [(6,vI (wr (x2+1)))] [] [] (lE h))
   ·obtain rfl:=so h
    exact cW (rq hC [] [4,28] [(4,vI x1)] [] [] (qr eR))
theorem qG{s}{depth}{r}(h:iO n s depth=some r):PQ G 165 [V.agg (cS s),vI depth] (vB r):=by
 unfold iO at h
 refine pq aO Tryz.func165 rfl fun w X hC=> ?_
 refine rq hC [.z (.b (true))] [2,4] [(2,V.tp (oW s))] [] [] (qs (vj h (fun x_=>aX [(2,V.tp (oW s)),(24,vB x_)] [] []) (fun j1 h=> ?_) (fun x4 h=> ?_)))
 ·
  refine aQ h (fun c1 h=> ?_) (fun c1 h=> ?_)
  ·refine aQ h (fun c2 h=> ?_) (fun c2 h=> ?_)
   ·obtain⟨x2,hx2,h⟩:=bd h
    refine aQ h (fun c3 h=> ?_) (fun c3 h=> ?_)
    ·obtain⟨x3,hx3,h⟩:=bd h
     exact rk hC (rF 3 c1++rF 4 c2++[oV (sZ G hx2),oF c2,oF c2]++rF 4 c3++[oV (aCD G n s.value depth 5 hx3),oF c3,oF c3]) (fr 5 20) [(24,vB (!x3))] [] [] (lE h)
    ·exact rk hC (rF 3 c1++rF 4 c2++[oV (sZ G hx2),oF c2,oF c2]++rT 6 c3) (fr 5 20) [(24,vB true)] [] [] (lE h)
   ·exact rk hC (rF 3 c1++rT 6 c2++sT 6) (fr 5 20) [(24,vB true)] [] [] (lE h)
  ·exact rk hC (rT 3 c1++sT 12) (fr 5 20) [(24,vB true)] [] [] (lE h)
 ·refine aS h (fun c4 h=> ?_) (fun c4 h=> ?_)
  ·obtain rfl:=so h
   exact rq hC [] [4] [(4,vB false)] [] [] (qr eR)
  ·refine qk ?_
   obtain⟨x5,hx5,h⟩:=bd h
   obtain rfl:=so h
   exact rq hC [oV (aCH G n s.value 5 hx5)] [4,25,26,27,28] [(4,vB (decide (x5≤12)))] [] [] (qr eR)
theorem xC{list}{part}{r}(h:o1 n list part=some r):PQ G 162 [vM aJ list,V.agg (l4 part)] (V.tup [vI r.1,vB r.2]):=by
 unfold o1 at h
 refine pq aO Tryz.func162 rfl fun w X hC=> ?_
 refine rq hC [.z (.b (true))] [3,4,5] [(3,V.tp (mT part))] [] [] ?_
 obtain⟨x1,hx1,h⟩:=bd h
 refine rq hC [oC [] [20] (T6 G hx1)] [6,7,13,14,15,16,17,18] [(6,ms 20 1 1 (rL rI) x1.1),(7,vB x1.2)] [(20,some (ar 48 1 1 (rL rI) x1.1))] [(20,true)] (qs (vj h (fun x_=>aX [(0,vM aJ list),(3,V.tp (mT part)),(6,ms 20 1 1 (rL rI) x1.1),(32,vB x_)] [(20,ar 48 1 1 (rL rI) x1.1)] [20]) (fun j2 h=> ?_) (fun x3 h=> ?_)))
 ·
  refine aQ h (fun c1 h=> ?_) (fun c1 h=> ?_)
  ·refine aQ h (fun c2 h=> ?_) (fun c2 h=> ?_)
   ·exact rk hC (rF 3 c1++[oN aG part.body,oF c1,oF c1]++rF 3 c2++[oN aG part.body,oF c2,oF c2]) (fr 19 14) [(32,vB (decide ((4:Int)<(part.body.length:Int))))] [] [] (lE h)
   ·exact rk hC (rF 3 c1++[oN aG part.body,oF c1,oF c1]++rT 5 c2) (fr 19 14) [(32,vB true)] [] [] (lE h)
  ·exact rk hC (rT 5 c1++sT 5) (fr 19 14) [(32,vB true)] [] [] (lE h)
 ·refine aS h (fun c3 h=> ?_) (fun c3 h=> ?_)
  ·obtain rfl:=so h
   exact rq hC [] [4,5] [(4,vI 0),(5,vB false)] [] [] (qr eR)
  ·refine qk (qs (rq hC [] [8] [(8,vI 0)] [] [] (qb (jN h (fun x_=>aX [(0,vM aJ list),(3,V.tp (mT part)),(6,ms 20 1 1 (rL rI) x1.1),(8,vI x_)] [(20,ar 48 1 1 (rL rI) x1.1)] [20]) lS ?_))))
   rintro again5 x4 h
   refine qs (rq hC [oN aG part.body] (fr 33 5) [(37,vB (decide (x4<(part.body.length:Int))))] [] [] (aS h (fun c4 h=> ?_) (fun c4 h=> ?_)))
   ·refine qk (qs (qb (qs (qs ?_))))
    obtain⟨x6,hx6,x7,hx7,h⟩:=cO h
    refine dk hC bA [oR aG hx6,oN aC part.nest,oV (qG G hx7)] (fr 40 10) [(49,vB (!x7))] [] [] (aS h (fun c5 h=> ?_) (fun c5 h=> ?_))
    ·obtain rfl:=so h
     exact rq hC [] [4,5] [(4,vI 0),(5,vB false)] [] [] (qr eR)
    ·refine qk (rq hC [] [9] [(9,vI 0)] [] [] (qb (jN h (fun x_=>aX [(0,vM aJ list),(3,V.tp (mT part)),(6,ms 20 1 1 (rL rI) x1.1),(8,vI x4),(9,vI x_)] [(20,ar 48 1 1 (rL rI) x1.1)] [20]) lS ?_)))
     rintro again9 x8 h
     refine qs (rq hC [oN (rL rI) x1.1] (fr 50 4) [(53,vB (decide (x8<(x1.1.length:Int))))] [] [] (aS h (fun c6 h=> ?_) (fun c6 h=> ?_)))
     ·refine qk (qs (qb (qs ?_)))
      obtain⟨x10,hx10,x11,hx11,h⟩:=cO h
      refine dk hC bA [oR aG hx6,oQ (mO (rL rI) hx10),oX (rL rI) hx10,oC [] [21] (aCA G hx11)] [10,11,12,56,57,58,59,60,61,62,63,64,65,66,67,68,69,70] [(12,vB x11.2.2)] [(21,some (ar 3 1 1 rI x11.1))] [(21,true)] (vj h (fun x_=>aX [(0,vM aJ list),(3,V.tp (mT part)),(6,ms 20 1 1 (rL rI) x1.1),(8,vI x4),(9,vI x8),(80,vB x_)] [(20,ar 48 1 1 (rL rI) x1.1),(21,ar 3 1 1 rI x11.1)] [20,21]) (fun j12 h=> ?_) (fun x14 h=> ?_))
      ·
       refine aQ h (fun c7 h=> ?_) (fun c7 h=> ?_)
       ·obtain⟨x13,hx13,h⟩:=bd h
        exact rk hC (rF 3 c7++[oQ (mO (rL rI) hx10),oF c7,oX (rL rI) hx10,oF c7,oV (aCJ G hx13),oF c7,oF c7]) (fr 71 10) [(80,vB (!x13))] [] [] (lE h)
       ·exact rk hC (rT 7 c7) (fr 71 10) [(80,vB true)] [] [] (lE h)
      ·refine aS h (fun c8 h=> ?_) (fun c8 h=> ?_)
       ·obtain rfl:=so h
        exact rq hC [] [4,5] [(4,vI 0),(5,vB false)] [] [] (qr eR)
       ·exact qk (rk hC [] [9,54,55] [(9,vI (wr (x8+1)))] [] [] (lE h))
     ·exact cW (rk hC [] [8,38,39] [(8,vI (wr (x4+1)))] [] [] (lE h))
   ·obtain rfl:=so h
    exact cW (rq hC [oN (rL rI) x1.1,oN aG part.body] [4,5,81,82,83,84,85,86] [(4,vI (wr ((x1.1.length:Int)*(part.body.length:Int)))),(5,vB true)] [] [] (qr eR))
theorem dA{p}{r}(h:dV n p=some r):PQ G 68 [V.agg (bH p)] (vB r):=by
 unfold dV at h
 refine pq aO Tryz.func68 rfl fun w X hC=> ?_
 refine rq hC [.z (.b (true))] [1,2] [(1,V.tp (bO p))] [] [] (qs (vj h (fun x_=>aX [(1,V.tp (bO p)),(16,vB x_)] [] []) (fun j1 h=> ?_) (fun x3 h=> ?_)))
 ·
  obtain⟨x2,hx2,h⟩:=bd h
  refine aQ h (fun c1 h=> ?_) (fun c1 h=> ?_)
  ·exact rk hC ([oV (y5 G hx2)]++rF 3 c1++[oN aD p.parts,oF c1,oF c1]) (fr 7 10) [(16,vB (decide ((4:Int)<(p.parts.length:Int))))] [] [] (lE h)
  ·exact rk hC ([oV (y5 G hx2)]++rT 5 c1) (fr 7 10) [(16,vB true)] [] [] (lE h)
 ·refine aS h (fun c2 h=> ?_) (fun c2 h=> ?_)
  ·obtain rfl:=so h
   exact rq hC [] [2] [(2,vB false)] [] [] (qr eR)
  ·refine qk (rq hC [] [3] [(3,vI 0)] [] [] (qs (rq hC [] [4] [(4,vI 0)] [] [] (qb (jN h (fun x_=>aX [(1,V.tp (bO p)),(3,vI x_.1),(4,vI x_.2)] [] []) lS ?_)))))
   rintro again6 ⟨x4,x5⟩ h
   refine qs (rq hC [oN aD p.parts] (fr 17 5) [(21,vB (decide (x5<(p.parts.length:Int))))] [] [] (aS h (fun c3 h=> ?_) (fun c3 h=> ?_)))
   ·refine qk (qs (qb (qs ?_)))
    obtain⟨x7,hx7,x8,hx8,h⟩:=cO h
    refine dk hC bA [oR aD hx7,oV (xC G hx8)] [5,6,24,25,26,27,28,29,30,31,32,33,34] [(5,vI x8.1),(6,vB x8.2)] [] [] (qs (rq hC [] [35,36] [(36,vB (!x8.2))] [] [] (aS h (fun c4 h=> ?_) (fun c4 h=> ?_))))
    ·obtain rfl:=so h
     exact rq hC [] [2] [(2,vB false)] [] [] (qr eR)
    ·exact qk (rk hC [] [3,37,38,39] [(3,vI (wr (x4+x8.1)))] [] [] (rk hC [] [4,22,23] [(4,vI (wr (x5+1)))] [] [] (lE h)))
   ·obtain rfl:=so h
    exact cW (rq hC [] [2,40,41] [(2,vB (decide (x4≤120)))] [] [] (qr eR))
theorem S9{nest}{r}(h:o8 n nest=some r):VQ G 163 [] [vM aC nest] (ms 0 1 2 aC r) [E.tree nE 0 1 (List.map aC r) []]:=by
 unfold o8 at h
 refine vq aO Tryz.func163 rfl fun w X β0 hC hg=> ?_
 refine rq hC [] [2] [] [] [] (rq hC [.z (.nat 20),.z (.at 1),.z (.tre 20 nE 0)] [3,10] [(3,ms 20 1 2 aC [])] [(20,some (E.tree nE 0 1 (List.map aC []) []))] [(20,true)] (qs (rq hC [] [4] [(4,vI 0)] [] [] (qb (bF (γ:=Nat) h (fun x_ g_=>aX [(0,vM aC nest),(3,ms 20 g_ 2 aC x_.1),(4,vI x_.2)] [(20,E.tree nE 0 g_ (List.map aC x_.1) [])] [20]) 1 (lS) ?_)))))
 rintro again4 ⟨x1,x2⟩ g3 h
 refine qs (rq hC [oN aC nest] (fr 11 4) [(14,vB (decide (x2<(nest.length:Int))))] [] [] (aS h (fun c1 h=> ?_) (fun c1 h=> ?_)))
 ·refine qk (qs (qb (rq hC [.z (.nat 21)] [5,17] [(5,V.ref 21 0)] [(21,sc [V.t T.nilS,V.t T.nilS])] [(21,true)] (qs (rq hC [] [6] [(6,vI 0)] [] [] ?_)))))
  refine qb (qw (lk hC [.growc 21 0 22 79] [] [] [(22,some (ar 79 1 2 aA [])),(21,sc [ms 22 1 2 aA [],V.t T.nilS])] [(22,true)]) (bF (γ:=Nat) h (fun x_ g_=>aX [(0,vM aC nest),(3,ms 20 g3 2 aC x1),(4,vI x2),(5,V.ref 21 0),(6,vI x_.2)] [(20,E.tree nE 0 g3 (List.map aC x1) []),(21,E.cells [ms 22 g_ 2 aA x_.1,V.t T.nilS]),(22,ar 79 g_ 2 aA x_.1)] [20,21,22]) 1 (lS) ?_))
  rintro again8 ⟨x5,x6⟩ g7 h
  refine qs ?_
  obtain⟨x9,hx9,h⟩:=bd h
  refine rq hC [oR aC hx9,oN aA x9.lo] (fr 18 8) [(25,vB (decide (x6<(x9.lo.length:Int))))] [] [] (aS h (fun c2 h=> ?_) (fun c2 h=> ?_))
  ·refine qk (qs (qb ?_))
   obtain⟨x10,hx10,h⟩:=bd h
   refine rq hC [oR aC hx9,oR aA hx10,.z (.nat 23)] [7,28,29,30,31,32,33,34,35] [(7,V.ref 23 0)] [(23,some (E.cells (aK x10)))] [(23,true)] ?_
   obtain⟨x11,hx11,x12,hx12,h⟩:=cO h
   exact dk hC bA [.z (.nat 24),oA (aP rI hx11),.z (.at 5),.z (.fz 24 [41] []),.z (.int 0),oQ (bW (r:=rI) 1 (fun _=>rfl) []),oQ (bW (r:=rI) 1 (fun _=>rfl) x10.coefs),oA (aP aA hx12),oQ (bW (r:=aA) 2 aW x5),oQ (bW (r:=aA) 2 aW [(⟨x11,x10.const⟩:Affine)])] (fr 36 12) [] [(24,none),(22,some (ar 79 (g7+1) 2 aA x12)),(21,sc [ms 22 (g7+1) 2 aA x12,V.t T.nilS])] [(24,true)] (rk hC [] [6,26,27] [(6,vI (wr (x6+1)))] [] [] ⟨(x12,wr (x6+1)),(g7+1),h,lS⟩)
  ·refine cW (qs (rq hC [] [8] [(8,vI 0)] [] [] (qb (qw (lk hC [.growc 21 1 23 79] [] [] [(23,some (ar 79 1 2 aA [])),(21,sc [ms 22 g7 2 aA x5,ms 23 1 2 aA []])] [(23,true)]) (bF (γ:=Nat) h (fun x_ g_=>aX [(0,vM aC nest),(3,ms 20 g3 2 aC x1),(4,vI x2),(5,V.ref 21 0),(8,vI x_.2)] [(20,E.tree nE 0 g3 (List.map aC x1) []),(21,E.cells [ms 22 g7 2 aA x5,ms 23 g_ 2 aA x_.1]),(22,ar 79 g7 2 aA x5),(23,ar 79 g_ 2 aA x_.1)] [20,21,22,23]) 1 (lS) ?_)))))
   rintro again16 ⟨x13,x14⟩ g15 h
   refine qs (rq hC [oR aC hx9,oN aA x9.hi] (fr 48 8) [(55,vB (decide (x14<(x9.hi.length:Int))))] [] [] (aS h (fun c3 h=> ?_) (fun c3 h=> ?_)))
   ·refine qk (qs (qb ?_))
    obtain⟨x17,hx17,h⟩:=bd h
    refine rq hC [oR aC hx9,oR aA hx17,.z (.nat 24)] [9,58,59,60,61,62,63,64,65] [(9,V.ref 24 0)] [(24,some (E.cells (aK x17)))] [(24,true)] ?_
    obtain⟨x18,hx18,x19,hx19,h⟩:=cO h
    exact dk hC bA [.z (.nat 25),oA (aP rI hx18),.z (.at 5),.z (.fz 25 [71] []),.z (.int 0),oQ (bW (r:=rI) 1 (fun _=>rfl) []),oQ (bW (r:=rI) 1 (fun _=>rfl) x17.coefs),oA (aP aA hx19),oQ (bW (r:=aA) 2 aW x13),oQ (bW (r:=aA) 2 aW [(⟨x18,x17.const⟩:Affine)])] (fr 66 12) [] [(25,none),(23,some (ar 79 (g15+1) 2 aA x19)),(21,sc [ms 22 g7 2 aA x5,ms 23 (g15+1) 2 aA x19])] [(25,true)] (rk hC [] [8,56,57] [(8,vI (wr (x14+1)))] [] [] ⟨(x19,wr (x14+1)),(g15+1),h,lS⟩)
   ·refine cW ?_
    obtain⟨x20,hx20,h⟩:=bd h
    exact rk hC [.z (.lt 24 nE 0),.z (.rows (List.map aC (x1++[(⟨[],[]⟩:Loop)]))),.z (.at 1),.z (.tre 22 nE 1),.z (.unf 20 22 (aC (⟨[],[]⟩:Loop)) (List.map aC (x1++[(⟨x5,[]⟩:Loop)]))),.z (.tre 23 nE 1),.z (.unf 20 23 (aC (⟨x5,[]⟩:Loop)) (List.map aC x20)),.z (.len 81 (List.map aC x20).length),oQ (Eq.refl (ndOf nE 0)),oQ (aH7 aC (⟨[],[]⟩:Loop) hx20),oQ (bW (r:=aC) 2 bL x1),oQ (bW (r:=aC) 2 bL [(⟨[],[]⟩:Loop)]),oQ (Eq.refl (List.map aA x5).length),oQ (Eq.refl nE),oQ (aAR aC x1 (⟨[],[]⟩:Loop)),oQ (aGD aC x1 (ph:=(⟨[],[]⟩:Loop)) (y:=(⟨x5,[]⟩:Loop)) rfl),oQ (Eq.refl (List.map aA x13).length),oQ (Eq.refl nE),oQ (aAR aC x1 (⟨x5,[]⟩:Loop)),oQ (aBW aC (ph:=(⟨x5,[]⟩:Loop)) hx20 rfl),oQ (aG0 aC (⟨[],[]⟩:Loop) hx20)] [3,78,79,80,81] [(3,ms 20 (g3+1) 2 aC x20)] [(24,some (E.tree nE 0 1 (List.map aC [(⟨[],[]⟩:Loop)]) [(0,0,ms 22 g7 2 aA x5),(0,1,ms 23 g15 2 aA x13)])),(20,some (E.tree nE 0 (g3+1) (List.map aC x20) [])),(22,none),(23,none)] [(24,true)] (rk hC [] [4,15,16] [(4,vI (wr (x2+1)))] [] [] ⟨(x20,wr (x2+1)),(g3+1),h,lS⟩)
 ·obtain rfl:=so h
  exact cW (rq hC [] [2,82] [(2,ms 20 g3 2 aC x1)] [] [] (qw (lk hC [.rn 20 0 [2,3] []] [2,3] [(2,ms 0 1 2 aC x1),(3,ms 0 1 2 aC x1)] [(20,none),(0,some (E.tree nE 0 1 (List.map aC x1) []))] [(0,true)]) (qr eW)))
theorem S7(G:GS): ∀(n:Nat) (e:Expr) {r:Expr} (h:s_l3CopyExpr n e=some r),VQ G 243 [] [V.agg (cU e)] (V.agg [vI r.kind,vI r.num,ms 0 1 1 rI r.index.coefs,vI r.index.const,vS r.read.array,ms 1 1 2 aA r.read.subs,ms 2 1 7 aI r.kids]) [ar 3 1 1 rI r.index.coefs,ar 79 1 2 aA r.read.subs,ar 82 1 7 aI r.kids]:=by
 intro n
 induction n with
 |zero=>intro e r h;rw [s_l3CopyExpr.eq_def] at h;cases h
 |succ n ih=>
  intro e r h
  rw [s_l3CopyExpr.eq_def] at h;dsimp only at h
  refine vq aO Tryz.func243 rfl fun w X β0 hC hg=> ?_
  refine rq hC [.z (.b (true)),.z (.nat 20)] [1,2] [(1,V.tp (fI e)),(2,V.ref 20 0)] [(20,sc [vI 0,vI 0,V.t T.nilS,vI 0,vS [],V.t T.nilS,V.t T.nilS])] [(20,true)] (qs ?_)
  obtain⟨x1,hx1,x2,hx2,h⟩:=cO h
  refine dk hC bA [oC [] [21] (mI G hx1),oC [] [22] (mJ G hx2),.z (.nat 23)] [3,5,6,7,8,9,10,11,12,13,14,15] [(3,V.ref 23 0)] [(21,some (ar 3 1 1 rI x1.coefs)),(22,some (ar 79 1 2 aA x2.subs)),(23,sc [vI e.kind,vI e.num,ms 21 1 1 rI x1.coefs,vI x1.const,vS x2.array,ms 22 1 2 aA x2.subs,V.t T.nilS])] [(21,true),(22,true),(23,true)] (qs (rq hC [] [4] [(4,vI 0)] [] [] (qb (qw (lk hC [.growc 23 6 24 82] [] [] [(24,some (ar 82 1 7 aI [])),(23,sc [vI e.kind,vI e.num,ms 21 1 1 rI x1.coefs,vI x1.const,vS x2.array,ms 22 1 2 aA x2.subs,ms 24 1 7 aI []])] [(24,true)]) (bF (γ:=Nat) h (fun x_ g_=>aX [(1,V.tp (fI e)),(2,V.ref 20 0),(3,V.ref 23 0),(4,vI x_.2)] [(20,E.cells [vI 0,vI 0,V.t T.nilS,vI 0,vS [],V.t T.nilS,V.t T.nilS]),(21,ar 3 1 1 rI x1.coefs),(22,ar 79 1 2 aA x2.subs),(23,E.cells [vI e.kind,vI e.num,ms 21 1 1 rI x1.coefs,vI x1.const,vS x2.array,ms 22 1 2 aA x2.subs,ms 24 g_ 7 aI x_.1]),(24,ar 82 g_ 7 aI x_.1)] [20,21,22,23,24]) 1 (lS) ?_)))))
  rintro again6 ⟨x3,x4⟩ g5 h
  refine qs (rq hC [oN aI e.kids] (fr 16 5) [(20,vB (decide (x4<(e.kids.length:Int))))] [] [] (aS h (fun c1 h=> ?_) (fun c1 h=> ?_)))
  ·refine qk (qs (qb ?_))
   obtain⟨x7,hx7,x8,hx8,x9,hx9,h⟩:=kX h
   exact dk hC bA [.z (.row (eC x7)),oQ (eZ aI hx7 (cQ x7)),oC [] [25,26,27] (ih x7 hx8),.z (.at 4),.z (.fz 25 [30] []),.z (.at 4),.z (.fz 26 [30] []),.z (.at 4),.z (.fz 27 [30] []),.z (.int 2),.z (.rows (List.map aI [x8])),oQ (sV x8),oA (aP aI hx9),oQ (bW (r:=aI) 7 d7 x3),oQ (bW (r:=aI) 7 d7 [x8])] (fr 23 11) [] [(25,none),(26,none),(27,none),(24,some (ar 82 (g5+1) 7 aI x9)),(23,sc [vI e.kind,vI e.num,ms 21 1 1 rI x1.coefs,vI x1.const,vS x2.array,ms 22 1 2 aA x2.subs,ms 24 (g5+1) 7 aI x9])] [(25,true),(26,true),(27,true)] (rk hC [] [4,21,22] [(4,vI (wr (x4+1)))] [] [] ⟨(x9,wr (x4+1)),(g5+1),h,lS⟩)
  ·obtain rfl:=so h
   exact cW (rq hC [] [34] [] [(20,sc [vI e.kind,vI e.num,ms 21 1 1 rI x1.coefs,vI x1.const,vS x2.array,ms 22 1 2 aA x2.subs,ms 24 g5 7 aI x3])] [] (qw (lk hC [.rn 21 0 [] [20,23]] [] [] [(20,sc [vI e.kind,vI e.num,ms 0 1 1 rI x1.coefs,vI x1.const,vS x2.array,ms 22 1 2 aA x2.subs,ms 24 g5 7 aI x3]),(23,sc [vI e.kind,vI e.num,ms 0 1 1 rI x1.coefs,vI x1.const,vS x2.array,ms 22 1 2 aA x2.subs,ms 24 g5 7 aI x3]),(21,none),(0,some (ar 3 1 1 rI x1.coefs))] [(0,true)]) (qw (lk hC [.rn 22 1 [] [20,23]] [] [] [(20,sc [vI e.kind,vI e.num,ms 0 1 1 rI x1.coefs,vI x1.const,vS x2.array,ms 1 1 2 aA x2.subs,ms 24 g5 7 aI x3]),(23,sc [vI e.kind,vI e.num,ms 0 1 1 rI x1.coefs,vI x1.const,vS x2.array,ms 1 1 2 aA x2.subs,ms 24 g5 7 aI x3]),(22,none),(1,some (ar 79 1 2 aA x2.subs))] [(1,true)]) (qw (lk hC [.rn 24 2 [] [20,23]] [] [] [(20,sc [vI e.kind,vI e.num,ms 0 1 1 rI x1.coefs,vI x1.const,vS x2.array,ms 1 1 2 aA x2.subs,ms 2 1 7 aI x3]),(23,sc [vI e.kind,vI e.num,ms 0 1 1 rI x1.coefs,vI x1.const,vS x2.array,ms 1 1 2 aA x2.subs,ms 2 1 7 aI x3]),(24,none),(2,some (ar 82 1 7 aI x3))] [(2,true)]) (qr eW)))))
theorem S8{s}{r}(h:mV n s=some r):VQ G 164 [] [V.agg (cS s)] (V.agg [vS r.write.array,ms 0 1 2 aA r.write.subs,vI r.value.kind,vI r.value.num,ms 1 1 1 rI r.value.index.coefs,vI r.value.index.const,vS r.value.read.array,ms 2 1 2 aA r.value.read.subs,ms 3 1 7 aI r.value.kids]) [ar 79 1 2 aA r.write.subs,ar 3 1 1 rI r.value.index.coefs,ar 79 1 2 aA r.value.read.subs,ar 82 1 7 aI r.value.kids]:=by
 unfold mV at h
 refine vq aO Tryz.func164 rfl fun w X β0 hC hg=> ?_
 refine rq hC [.z (.b (true)),.z (.nat 20)] [1,2] [(1,V.tp (oW s)),(2,V.ref 20 0)] [(20,sc [vS [],V.t T.nilS,vI 0,vI 0,V.t T.nilS,vI 0,vS [],V.t T.nilS,V.t T.nilS])] [(20,true)] (qs ?_)
 obtain⟨x1,hx1,x2,hx2,h⟩:=cO h
 obtain rfl:=so h
 exact dk hC bA [oC [] [21] (mJ G hx1),oC [] [22,23,24] (S7 G n s.value hx2)] (fr 3 7) [] [(21,some (ar 79 1 2 aA x1.subs)),(22,some (ar 3 1 1 rI x2.index.coefs)),(23,some (ar 79 1 2 aA x2.read.subs)),(24,some (ar 82 1 7 aI x2.kids)),(20,sc [vS x1.array,ms 21 1 2 aA x1.subs,vI x2.kind,vI x2.num,ms 22 1 1 rI x2.index.coefs,vI x2.index.const,vS x2.read.array,ms 23 1 2 aA x2.read.subs,ms 24 1 7 aI x2.kids])] [(21,true),(22,true),(23,true),(24,true)] (qw (lk hC [.rn 21 0 [] [20]] [] [] [(20,sc [vS x1.array,ms 0 1 2 aA x1.subs,vI x2.kind,vI x2.num,ms 22 1 1 rI x2.index.coefs,vI x2.index.const,vS x2.read.array,ms 23 1 2 aA x2.read.subs,ms 24 1 7 aI x2.kids]),(21,none),(0,some (ar 79 1 2 aA x1.subs))] [(0,true)]) (qw (lk hC [.rn 22 1 [] [20]] [] [] [(20,sc [vS x1.array,ms 0 1 2 aA x1.subs,vI x2.kind,vI x2.num,ms 1 1 1 rI x2.index.coefs,vI x2.index.const,vS x2.read.array,ms 23 1 2 aA x2.read.subs,ms 24 1 7 aI x2.kids]),(22,none),(1,some (ar 3 1 1 rI x2.index.coefs))] [(1,true)]) (qw (lk hC [.rn 23 2 [] [20]] [] [] [(20,sc [vS x1.array,ms 0 1 2 aA x1.subs,vI x2.kind,vI x2.num,ms 1 1 1 rI x2.index.coefs,vI x2.index.const,vS x2.read.array,ms 2 1 2 aA x2.read.subs,ms 24 1 7 aI x2.kids]),(23,none),(2,some (ar 79 1 2 aA x2.read.subs))] [(2,true)]) (qw (lk hC [.rn 24 3 [] [20]] [] [] [(20,sc [vS x1.array,ms 0 1 2 aA x1.subs,vI x2.kind,vI x2.num,ms 1 1 1 rI x2.index.coefs,vI x2.index.const,vS x2.read.array,ms 2 1 2 aA x2.read.subs,ms 3 1 7 aI x2.kids]),(24,none),(3,some (ar 82 1 7 aI x2.kids))] [(3,true)]) (qr eW)))))
theorem xD{p}{r}(h:o4 n p=some r):VQ G 69 [] [V.agg (bH p)] (V.agg [ms 0 1 2 aJ r.arrays,ms 1 1 2 aD r.parts]) [ar 90 1 2 aJ r.arrays,E.tree nE 2 1 (List.map aD r.parts) []]:=by
 unfold o4 at h
 refine vq aO Tryz.func69 rfl fun w X β0 hC hg=> ?_
 refine rq hC [.z (.b (true)),.z (.nat 20)] [1,2] [(1,V.tp (bO p)),(2,V.ref 20 0)] [(20,sc [V.t T.nilS,V.t T.nilS])] [(20,true)] (rq hC [.z (.nat 21)] [3,8] [(3,V.ref 21 0)] [(21,sc [V.t T.nilS,V.t T.nilS])] [(21,true)] (qs (rq hC [] [4] [(4,vI 0)] [] [] (qb (qw (lk hC [.growc 21 0 22 90] [] [] [(22,some (ar 90 1 2 aJ [])),(21,sc [ms 22 1 2 aJ [],V.t T.nilS])] [(22,true)]) ?_)))))
 refine bF (γ:=Nat) h (fun x_ g_=>aX [(1,V.tp (bO p)),(2,V.ref 20 0),(3,V.ref 21 0),(4,vI x_.2)] [(20,E.cells [V.t T.nilS,V.t T.nilS]),(21,E.cells [ms 22 g_ 2 aJ x_.1,V.t T.nilS]),(22,ar 90 g_ 2 aJ x_.1)] [20,21,22]) 1 (lS) ?_
 rintro again4 ⟨x1,x2⟩ g3 h
 refine qs (rq hC [oN aJ p.arrays] (fr 9 5) [(13,vB (decide (x2<(p.arrays.length:Int))))] [] [] (aS h (fun c1 h=> ?_) (fun c1 h=> ?_)))
 ·refine qk (qs (qb ?_))
  obtain⟨x5,hx5,x6,hx6,x7,hx7,h⟩:=kX h
  exact dk hC bA [oR aJ hx5,.z (.nat 23),oR aJ hx5,oA (aP rI hx6),.z (.at 5),.z (.fz 23 [31] []),.z (.int 0),oQ (bW (r:=rI) 1 (fun _=>rfl) []),oQ (bW (r:=rI) 1 (fun _=>rfl) x5.dims),oA (aP aJ hx7),oQ (bW (r:=aJ) 2 gU x1),oQ (bW (r:=aJ) 2 gU [(⟨x5.name,x6⟩:Arr)])] (fr 16 20) [] [(23,none),(22,some (ar 90 (g3+1) 2 aJ x7)),(21,sc [ms 22 (g3+1) 2 aJ x7,V.t T.nilS])] [(23,true)] (rk hC [] [4,14,15] [(4,vI (wr (x2+1)))] [] [] ⟨(x7,wr (x2+1)),(g3+1),h,lS⟩)
 ·refine cW (qs (rq hC [] [5] [(5,vI 0)] [] [] (qb (qw (lk hC [.growc 21 1 23 46,.tre 23 nE 2] [] [] [(23,some (E.tree nE 2 1 (List.map aD []) [])),(21,sc [ms 22 g3 2 aJ x1,ms 23 1 2 aD []])] [(23,true)]) (bF (γ:=Nat) h (fun x_ g_=>aX [(1,V.tp (bO p)),(2,V.ref 20 0),(3,V.ref 21 0),(5,vI x_.2)] [(20,E.cells [V.t T.nilS,V.t T.nilS]),(21,E.cells [ms 22 g3 2 aJ x1,ms 23 g_ 2 aD x_.1]),(22,ar 90 g3 2 aJ x1),(23,E.tree nE 2 g_ (List.map aD x_.1) [])] [20,21,22,23]) 1 (lS) ?_)))))
  rintro again11 ⟨x8,x9⟩ g10 h
  refine qs (rq hC [oN aD p.parts] (fr 36 5) [(40,vB (decide (x9<(p.parts.length:Int))))] [] [] (aS h (fun c2 h=> ?_) (fun c2 h=> ?_)))
  ·refine qk (qs (qb ?_))
   obtain⟨x12,hx12,x13,hx13,h⟩:=cO h
   refine rq hC [oR aD hx12,oC [] [24] (S9 G hx13),.z (.nat 25)] [6,43,44,45,46,47,48,49,50] [(6,V.ref 25 0)] [(24,some (E.tree nE 0 1 (List.map aC x13) [])),(25,sc [ms 24 1 2 aC x13,V.t T.nilS])] [(24,true),(25,true)] (qs (rq hC [] [7] [(7,vI 0)] [] [] (qb (qw (lk hC [.growc 25 1 26 84] [] [] [(26,some (ar 84 1 9 aG [])),(25,sc [ms 24 1 2 aC x13,ms 26 1 9 aG []])] [(26,true)]) (bF (γ:=Nat) h (fun x_ g_=>aX [(1,V.tp (bO p)),(2,V.ref 20 0),(3,V.ref 21 0),(5,vI x9),(6,V.ref 25 0),(7,vI x_.2)] [(20,E.cells [V.t T.nilS,V.t T.nilS]),(21,E.cells [ms 22 g3 2 aJ x1,ms 23 g10 2 aD x8]),(22,ar 90 g3 2 aJ x1),(23,E.tree nE 2 g10 (List.map aD x8) []),(24,E.tree nE 0 1 (List.map aC x13) []),(25,E.cells [ms 24 1 2 aC x13,ms 26 g_ 9 aG x_.1]),(26,ar 84 g_ 9 aG x_.1)] [20,21,22,23,24,25,26]) 1 (lS) ?_)))))
   rintro again17 ⟨x14,x15⟩ g16 h
   refine qs (rq hC [oR aD hx12,oN aG x12.body] (fr 51 9) [(59,vB (decide (x15<(x12.body.length:Int))))] [] [] (aS h (fun c3 h=> ?_) (fun c3 h=> ?_)))
   ·refine qk (qs (qb ?_))
    obtain⟨x18,hx18,x19,hx19,x20,hx20,h⟩:=kX h
    exact dk hC bA [oR aD hx12,oR aG hx18,oC [] [27,28,29,30] (S8 G hx19),.z (.at 4),.z (.fz 27 [73] []),.z (.at 4),.z (.fz 28 [73] []),.z (.at 4),.z (.fz 29 [73] []),.z (.at 4),.z (.fz 30 [73] []),.z (.int 0),oA (aP aG hx20),oQ (bW (r:=aG) 9 d6 x14),oQ (bW (r:=aG) 9 d6 [x19])] (fr 62 15) [] [(27,none),(28,none),(29,none),(30,none),(26,some (ar 84 (g16+1) 9 aG x20)),(25,sc [ms 24 1 2 aC x13,ms 26 (g16+1) 9 aG x20])] [(27,true),(28,true),(29,true),(30,true)] (rk hC [] [7,60,61] [(7,vI (wr (x15+1)))] [] [] ⟨(x20,wr (x15+1)),(g16+1),h,lS⟩)
   ·refine cW ?_
    obtain⟨x21,hx21,h⟩:=bd h
    exact rk hC [.z (.at 5),.z (.shd 24),.z (.at 5),.z (.fz 24 [] [25]),.z (.lt 27 nE 2),.z (.rows (List.map aD (x8++[(⟨x13,[]⟩:Part)]))),.z (.at 2),.z (.tre 26 nE 3),.z (.unf 23 26 (aD (⟨x13,[]⟩:Part)) (List.map aD x21)),.z (.len 81 (List.map aD x21).length),oQ (Eq.refl (ndOf nE 2)),oQ (aH7 aD (⟨x13,[]⟩:Part) hx21),oQ (bW (r:=aD) 2 cB x8),oQ (bW (r:=aD) 2 cB [(⟨x13,[]⟩:Part)]),oQ (Eq.refl (List.map aG x14).length),oQ (Eq.refl nE),oQ (aAR aD x8 (⟨x13,[]⟩:Part)),oQ (aBW aD (ph:=(⟨x13,[]⟩:Part)) hx21 rfl),oQ (aG0 aD (⟨x13,[]⟩:Part) hx21)] (fr 77 6) [] [(24,none),(25,sc [vM aC x13,ms 26 g16 9 aG x14]),(27,some (E.tree nE 2 1 (List.map aD [(⟨x13,[]⟩:Part)]) [(0,1,ms 26 g16 9 aG x14)])),(23,some (E.tree nE 2 (g10+1) (List.map aD x21) [])),(26,none),(21,sc [ms 22 g3 2 aJ x1,ms 23 (g10+1) 2 aD x21])] [(27,true)] (rk hC [] [5,41,42] [(5,vI (wr (x9+1)))] [] [] ⟨(x21,wr (x9+1)),(g10+1),h,lS⟩)
  ·obtain rfl:=so h
   exact cW (rq hC [] [83] [] [(20,sc [ms 22 g3 2 aJ x1,ms 23 g10 2 aD x8])] [] (qw (lk hC [.rn 22 0 [] [20,21]] [] [] [(20,sc [ms 0 1 2 aJ x1,ms 23 g10 2 aD x8]),(21,sc [ms 0 1 2 aJ x1,ms 23 g10 2 aD x8]),(22,none),(0,some (ar 90 1 2 aJ x1))] [(0,true)]) (qw (lk hC [.rn 23 1 [] [20,21]] [] [] [(20,sc [ms 0 1 2 aJ x1,ms 1 1 2 aD x8]),(21,sc [ms 0 1 2 aJ x1,ms 1 1 2 aD x8]),(23,none),(1,some (E.tree nE 2 1 (List.map aD x8) []))] [(1,true)]) (qr eW))))
theorem bQ{r_a0}{n_a1}{r}(h:bJ n r_a0 n_a1=some r):VQ G 150 [eL r_a0] [V.ref 0 0,vI n_a1] (vI r.1) [eL r.2]:=by
 unfold bJ at h
 refine vq aO Tryz.func150 rfl fun w X β0 hC hg=> ?_
 refine rq hC [] [4] [] [] [] (rq hC [] (fr 7 8) [] [(0,sc [vM rY r_a0.b,vI (wr (r_a0.p+1))])] [] (qs (vj h (fun x_=>aX [(0,V.ref 0 0),(1,vI n_a1),(24,vB x_)] [(0,E.cells [vM rY r_a0.b,vI (wr (r_a0.p+1))])] [0]) (fun j1 h=> ?_) (fun x2 h=> ?_))))
 ·
  refine aQ h (fun c1 h=> ?_) (fun c1 h=> ?_)
  ·exact rk hC (rF 5 c1++[oN rY r_a0.b,oF c1,oF c1]) (fr 15 10) [(24,vB (decide ((r_a0.b.length:Int)=0)))] [] [] (lE h)
  ·exact rk hC (rT 7 c1) (fr 15 10) [(24,vB true)] [] [] (lE h)
 ·refine aS h (fun c2 h=> ?_) (fun c2 h=> ?_)
  ·obtain rfl:=so h
   exact rq hC [] [4] [(4,vI 0)] [] [] (qr eW)
  ·refine qk (rq hC [] [5,25,26,27,28,29] [(5,vI (wr ((wr (r_a0.p+1))-1)))] [] [] (qs (rq hC [oN rY r_a0.b] (fr 30 7) [(36,vB (decide (wr ((wr (r_a0.p+1))-1)<(r_a0.b.length:Int))))] [] [] (aS h (fun c3 h=> ?_) (fun c3 h=> ?_)))))
   ·obtain⟨x3,hx3,x4,hx4,h⟩:=cO h
    obtain rfl:=so h
    exact rq hC [oR rY hx3,.z (.int (x3.toNat:Int)),oQ (u8i x3),oQ (wY hx4)] [4,37,38,39,40,41,42,43,44,45,46] [(4,vI (Int.tmod (x3.toNat:Int) n_a1))] [] [] (qr eW)
   ·refine qk (qs ?_)
    obtain⟨x5,hx5,x6,hx6,x7,hx7,h⟩:=kX h
    obtain⟨x8,hx8,x9,hx9,h⟩:=cO h
    refine dk hC bA [oN rY r_a0.b,oQ (wY hx5),oR rY hx6,.z (.int (x6.toNat:Int)),oQ (u8i x6),oN rY r_a0.b,oQ (wY hx7),oR rY hx8,.z (.int (x8.toNat:Int)),oQ (u8i x8),oN rY r_a0.b,oQ (wY hx9)] [6,47,48,49,50,51,52,53,54,55,56,57,58,59,60,61,62,63,64,65,66,67,68,69,70,71,72,73,74,75,76,77,78,79,80,81,82,83,84,85,86,87,88,89,90,91] [(6,vI (wr ((wr ((wr ((wr ((x6.toNat:Int)*131))+(wr ((x8.toNat:Int)*1117))))+(wr ((wr ((wr (r_a0.p+1))-1))*29))))+(wr ((wr (Int.tdiv (wr ((wr (r_a0.p+1))-1)) (r_a0.b.length:Int)))*53)))))] [] [] (rq hC [oQ (show(64:Int)≠0 by decide)] [6,92,93,94,95] [(6,vI (bits BinOp.xor IntKind.i64 (wr ((wr ((wr ((wr ((x6.toNat:Int)*131))+(wr ((x8.toNat:Int)*1117))))+(wr ((wr ((wr (r_a0.p+1))-1))*29))))+(wr ((wr (Int.tdiv (wr ((wr (r_a0.p+1))-1)) (r_a0.b.length:Int)))*53)))) (wr (Int.tdiv (wr ((wr ((wr ((wr ((x6.toNat:Int)*131))+(wr ((x8.toNat:Int)*1117))))+(wr ((wr ((wr (r_a0.p+1))-1))*29))))+(wr ((wr (Int.tdiv (wr ((wr (r_a0.p+1))-1)) (r_a0.b.length:Int)))*53)))) 64))))] [] [] ?_)
    obtain⟨x10,hx10,h⟩:=bd h
    obtain rfl:=so h
    exact rq hC [oQ (wY hx10)] [4,96,97,98] [(4,vI (Int.tmod (bits BinOp.xor IntKind.i64 (wr ((wr ((wr ((wr ((x6.toNat:Int)*131))+(wr ((x8.toNat:Int)*1117))))+(wr ((wr ((wr (r_a0.p+1))-1))*29))))+(wr ((wr (Int.tdiv (wr ((wr (r_a0.p+1))-1)) (r_a0.b.length:Int)))*53)))) (wr (Int.tdiv (wr ((wr ((wr ((wr ((x6.toNat:Int)*131))+(wr ((x8.toNat:Int)*1117))))+(wr ((wr ((wr (r_a0.p+1))-1))*29))))+(wr ((wr (Int.tdiv (wr ((wr (r_a0.p+1))-1)) (r_a0.b.length:Int)))*53)))) 64))) n_a1))] [] [] (qr eW)
theorem bC{r_a0}{list}{r}(h:aZ n r_a0 list=some r):VQ G 152 [eL r_a0] [V.ref 0 0,vM rI list] (vI r.1) [eL r.2]:=by
 unfold aZ at h
 refine vq aO Tryz.func152 rfl fun w X β0 hC hg=> ?_
 refine rq hC [] [4] [] [] [] ?_
 obtain⟨x1,hx1,x2,hx2,h⟩:=cO h
 obtain rfl:=so h
 exact rq hC [oN rI list,oC [0] [] (bQ G hx1),oR rI hx2] (fr 4 8) [(4,vI x2)] [(0,sR x1.2)] [(0,true)] (qr eW)
theorem xK{s}{c}{r}(h:uG n s c=some r):VQ G 277 [] [vS s,vY c] (ms 0 1 1 rS r) [ar 9 1 1 rS r]:=by
 unfold uG at h
 refine vq aO Tryz.func277 rfl fun w X β0 hC hg=> ?_
 refine rq hC [] [4] [] [] [] (rq hC [.z (.nat 20)] [5,8] [(5,ms 20 1 1 rS [])] [(20,some (ar 9 1 1 rS []))] [(20,true)] (rq hC [] [6] [(6,vI 0)] [] [] (qs (rq hC [] [7] [(7,vI 0)] [] [] ?_))))
 refine qb (bF (γ:=Nat) h (fun x_ g_=>aX [(0,vS s),(1,vY c),(5,ms 20 g_ 1 rS x_.1),(6,vI x_.2.1),(7,vI x_.2.2)] [(20,ar 9 g_ 1 rS x_.1)] [20]) 1 (lS) ?_)
 rintro again5 ⟨x1,x2,x3⟩ g4 h
 refine qs (rq hC [] (fr 9 4) [(12,vB (decide (x3≤(s.length:Int))))] [] [] (aS h (fun c1 h=> ?_) (fun c1 h=> ?_)))
 ·refine qk ?_
  obtain⟨j6,hj6,h⟩:=W0 h
  refine oU (γ:=Nat) (j:=j6) (r:=r) (fun x_ g_=>aX [(0,vS s),(1,vY c),(5,ms 20 g_ 1 rS x_.1),(6,vI x_.2),(7,vI x3)] [(20,ar 9 g_ 1 rS x_.1)] [20]) ?_ ?_
  ·
   refine qb (vj h (fun x_=>aX [(0,vS s),(1,vY c),(5,ms 20 g4 1 rS x1),(6,vI x2),(7,vI x3),(25,vB x_)] [(20,ar 9 g4 1 rS x1)] [20]) (fun j7 h=> ?_) (fun x9 h=> ?_))
   ·
    refine aQ h (fun c2 h=> ?_) (fun c2 h=> ?_)
    ·obtain⟨x8,hx8,h⟩:=bd h
     exact rk hC (rF 3 c2++[oY hx8]++rF 3 c2) (fr 15 11) [(25,vB (decide ((x8.toNat:Int)=(c.toNat:Int))))] [] [] (lE h)
    ·exact rk hC (rT 6 c2) (fr 15 11) [(25,vB true)] [] [] (lE h)
   ·refine aS h (fun c3 h=> ?_) (fun c3 h=> ?_)
    ·obtain⟨x10,hx10,x11,hx11,h⟩:=cO h
     exact rq hC [oS hx10,.z (.int 0),oA (aP rS hx11),oQ (bW (r:=rS) 1 (fun _=>rfl) x1),oQ (bW (r:=rS) 1 (fun _=>rfl) [x10])] [5,26,27,28,29,30,31,32] [(5,ms 20 (g4+1) 1 rS x11)] [(20,some (ar 9 (g4+1) 1 rS x11))] [] (rk hC [] [6,33,34] [(6,vI (wr (x3+1)))] [] [] ⟨(x11,wr (x3+1)),(g4+1),h,lS⟩)
    ·exact qk ⟨(x1,x2),g4,h,lS⟩
  ·rintro⟨x12,x13⟩ g14 h
   subst hj6
   exact rk hC [] [7,13,14] [(7,vI (wr (x3+1)))] [] [] ⟨(x12,x13,wr (x3+1)),g14,h,lS⟩
 ·obtain rfl:=so h
  exact cW (rq hC [] [4,35] [(4,ms 20 g4 1 rS x1)] [] [] (qw (lk hC [.ren 4 20 0] [4] [(4,ms 0 1 1 rS x1)] [(0,some (ar 9 1 1 rS x1)),(20,none)] [(0,true)]) (qr eW)))
theorem y7{s}{r}(h:rZ n s=some r):VQ G 322 [] [vS s] (ms 0 1 1 rS r) [ar 9 1 1 rS r]:=by
 unfold rZ at h
 refine vq aO Tryz.func322 rfl fun w X β0 hC hg=> ?_
 refine rq hC [] [2] [] [] [] ?_
 obtain⟨x1,hx1,h⟩:=bd h
 refine rq hC [oC [] [20] (xK G hx1)] [3,6,7] [(3,ms 20 1 1 rS x1)] [(20,some (ar 9 1 1 rS x1))] [(20,true)] (rq hC [.z (.nat 21)] [4,8] [(4,ms 21 1 1 rS [])] [(21,some (ar 9 1 1 rS []))] [(21,true)] (qs (rq hC [] [5] [(5,vI 0)] [] [] (qb (bF (γ:=Nat) h (fun x_ g_=>aX [(3,ms 20 1 1 rS x1),(4,ms 21 g_ 1 rS x_.1),(5,vI x_.2)] [(20,ar 9 1 1 rS x1),(21,ar 9 g_ 1 rS x_.1)] [20,21]) 1 (lS) ?_)))))
 rintro again5 ⟨x2,x3⟩ g4 h
 refine qs (rq hC [oN rS x1] (fr 9 4) [(12,vB (decide (x3<(x1.length:Int))))] [] [] (aS h (fun c1 h=> ?_) (fun c1 h=> ?_)))
 ·refine qk ?_
  obtain⟨j6,hj6,h⟩:=W0 h
  refine oU (γ:=Nat) (j:=j6) (r:=r) (fun x_ g_=>aX [(3,ms 20 1 1 rS x1),(4,ms 21 g_ 1 rS x_),(5,vI x3)] [(20,ar 9 1 1 rS x1),(21,ar 9 g_ 1 rS x_)] [20,21]) ?_ ?_
  ·
   refine qb ?_
   obtain⟨x7,hx7,h⟩:=bd h
   refine rq hC [oQ (mO rS hx7),oX rS hx7] (fr 15 5) [(19,vB (!decide (x7=[])))] [] [] (aS h (fun c2 h=> ?_) (fun c2 h=> ?_))
   ·obtain⟨x8,hx8,h⟩:=bd h
    exact rk hC [oQ (mO rS hx7),oX rS hx7,.z (.int 0),oA (aP rS hx8),oQ (bW (r:=rS) 1 (fun _=>rfl) x2),oQ (bW (r:=rS) 1 (fun _=>rfl) [x7])] [4,20,21,22,23,24,25,26] [(4,ms 21 (g4+1) 1 rS x8)] [(21,some (ar 9 (g4+1) 1 rS x8))] [] ⟨x8,(g4+1),h,lS⟩
   ·exact qk ⟨x2,g4,h,lS⟩
  ·rintro x9 g10 h
   subst hj6
   exact rk hC [] [5,13,14] [(5,vI (wr (x3+1)))] [] [] ⟨(x9,wr (x3+1)),g10,h,lS⟩
 ·obtain rfl:=so h
  exact cW (rq hC [] [2,27] [(2,ms 21 g4 1 rS x2)] [] [] (qw (lk hC [.ren 2 21 0] [2] [(2,ms 0 1 1 rS x2)] [(0,some (ar 9 1 1 rS x2)),(21,none)] [(0,true)]) (qr eW)))
theorem T5{s}{r}(h:yC n s=some r):PQ G 350 [vS s] (V.tup [vI r.1,vB r.2]):=by
 unfold yC at h
 refine pq aO Tryz.func350 rfl fun w X hC=> ?_
 refine rq hC [] [2,3] [] [] [] (vj h (fun x_=>aX [(0,vS s),(4,vB x_)] [] []) (fun j1 h=> ?_) (fun x3 h=> ?_))
 ·
  refine aQ h (fun c1 h=> ?_) (fun c1 h=> ?_)
  ·exact rk hC (rF 4 c1) [4,7,8,9,10,11,12,13,14] [(4,vB false)] [] [] (lE h)
  ·obtain⟨x2,hx2,h⟩:=bd h
   exact rk hC [oT c1,oT c1,oY hx2,oT c1,oT c1] [4,7,8,9,10,11,12,13,14] [(4,vB (decide ((x2.toNat:Int)=45)))] [] [] (lE h)
 ·refine vj h (fun x_=>aX [(0,vS x_),(4,vB x3)] [] []) (fun j4 h=> ?_) (fun x6 h=> ?_)
  ·
   refine rq hC [] [15] [(15,vB x3)] [] [] (aS h (fun c2 h=> ?_) (fun c2 h=> ?_))
   ·obtain⟨x5,hx5,h⟩:=bd h
    exact rk hC [oS hx5] [0,16,17] [(0,vS x5)] [] [] (lE h)
   ·exact qk (lE h)
  ·refine qs (vj h (fun x_=>aX [(0,vS x6),(4,vB x3),(38,vB x_)] [] []) (fun j7 h=> ?_) (fun x9 h=> ?_))
   ·
    refine aQ h (fun c3 h=> ?_) (fun c3 h=> ?_)
    ·refine aQ h (fun c4 h=> ?_) (fun c4 h=> ?_)
     ·obtain⟨x8,hx8,h⟩:=bd h
      refine aQ h (fun c5 h=> ?_) (fun c5 h=> ?_)
      ·exact rk hC (rF 4 c3++[oF c4,oF c4,oY hx8,oF c4,oF c4]++rF 5 c5++[oF c4,oF c5,oF c4]) (fr 18 21) [(38,vB false)] [] [] (lE h)
      ·refine aQ h (fun c6 h=> ?_) (fun c6 h=> ?_)
       ·exact rk hC (rF 4 c3++[oF c4,oF c4,oY hx8,oF c4,oF c4]++rT 4 c5++[oF c6,oT c5,oF c6,oF c4,oT c5,oF c4]) (fr 18 21) [(38,vB x3)] [] [] (lE h)
       ·exact rk hC (rF 4 c3++[oF c4,oF c4,oY hx8,oF c4,oF c4]++rT 4 c5++[oT c6,oT c5,oT c6,oF c4,oT c5,oF c4]) (fr 18 21) [(38,vB true)] [] [] (lE h)
     ·exact rk hC (rF 4 c3++rT 6 c4) (fr 18 21) [(38,vB true)] [] [] (lE h)
    ·exact rk hC (rT 4 c3++sT 6) (fr 18 21) [(38,vB true)] [] [] (lE h)
   ·refine aS h (fun c7 h=> ?_) (fun c7 h=> ?_)
    ·obtain rfl:=so h
     exact rq hC [] [2,3] [(2,vI 0),(3,vB false)] [] [] (qr eR)
    ·refine qk (rq hC [] [5] [(5,vI 0)] [] [] (qs (rq hC [] [6] [(6,vI 0)] [] [] (qb (jN h (fun x_=>aX [(0,vS x6),(4,vB x3),(5,vI x_.1),(6,vI x_.2)] [] []) lS ?_)))))
     rintro again12 ⟨x10,x11⟩ h
     refine qs (rq hC [] (fr 39 4) [(42,vB (decide (x11<(x6.length:Int))))] [] [] (aS h (fun c8 h=> ?_) (fun c8 h=> ?_)))
     ·refine qk (qs (qb (qs (vj h (fun x_=>aX [(0,vS x6),(4,vB x3),(5,vI x10),(6,vI x11),(54,vB x_)] [] []) (fun j13 h=> ?_) (fun x15 h=> ?_)))))
      ·
       obtain⟨x14,hx14,h⟩:=bd h
       refine aQ h (fun c9 h=> ?_) (fun c9 h=> ?_)
       ·exact rk hC ([oY hx14]++rF 3 c9++[oY hx14,oF c9,oF c9]) (fr 45 10) [(54,vB (decide ((57:Int)<(x14.toNat:Int))))] [] [] (lE h)
       ·exact rk hC ([oY hx14]++rT 5 c9) (fr 45 10) [(54,vB true)] [] [] (lE h)
      ·refine aS h (fun c10 h=> ?_) (fun c10 h=> ?_)
       ·obtain rfl:=so h
        exact rq hC [] [2,3] [(2,vI 0),(3,vB false)] [] [] (qr eR)
       ·refine qk ?_
        obtain⟨x16,hx16,h⟩:=bd h
        exact rk hC [oY hx16,.z (.int ((x16-(48:UInt8)).toNat:Int)),oQ (cvu (aKi x16 (48:UInt8)))] [5,55,56,57,58,59,60,61,62] [(5,vI (wr ((wr (x10*10))+((x16-(48:UInt8)).toNat:Int))))] [] [] (rk hC [] [6,43,44] [(6,vI (wr (x11+1)))] [] [] (lE h))
     ·refine cW (vj h (fun x_=>aX [(5,vI x_)] [] []) (fun j17 h=> ?_) (fun x18 h=> ?_))
      ·
       refine rq hC [] [63] [(63,vB x3)] [] [] (aS h (fun c11 h=> ?_) (fun c11 h=> ?_))
       ·exact rk hC [] [5,64,65] [(5,vI (wr (0-x10)))] [] [] (lE h)
       ·exact qk (lE h)
      ·obtain rfl:=so h
       exact rq hC [] [2,3,66] [(2,vI x18),(3,vB true)] [] [] (qr eR)
theorem aCB{w_a0}{r}(h:zV n w_a0=some r):PQ G 323 [vM rS w_a0] (V.agg [vS r.name,vM rI r.dims]):=by
 unfold zV at h
 refine pq aO Tryz.func323 rfl fun w X hC=> ?_
 refine rq hC [.z (.nat 20)] [2] [(2,V.ref 20 0)] [(20,sc [vS [],V.t T.nilS])] [(20,true)] (rq hC [.z (.nat 21)] [3,7] [(3,V.ref 21 0)] [(21,sc [vS [],V.t T.nilS])] [(21,true)] (qs (rq hC [] [4] [(4,vI 1)] [] [] (qb (qw (lk hC [.growc 21 1 22 3] [] [] [(22,some (ar 3 1 1 rI [])),(21,sc [vS [],ms 22 1 1 rI []])] [(22,true)]) ?_)))))
 refine bF (γ:=Nat) h (fun x_ g_=>aX [(0,vM rS w_a0),(2,V.ref 20 0),(3,V.ref 21 0),(4,vI x_.2.2)] [(20,E.cells [vS [],V.t T.nilS]),(21,E.cells [vS x_.1,ms 22 g_ 1 rI x_.2.1]),(22,ar 3 g_ 1 rI x_.2.1)] [20,21,22]) 1 (lS) ?_
 rintro again5 ⟨x1,x2,x3⟩ g4 h
 refine qs (vj h (fun x_=>aX [(0,vM rS w_a0),(2,V.ref 20 0),(3,V.ref 21 0),(4,vI x3),(15,vB x_)] [(20,E.cells [vS [],V.t T.nilS]),(21,E.cells [vS x1,ms 22 g4 1 rI x2]),(22,ar 3 g4 1 rI x2)] [20,21,22]) (fun j6 h=> ?_) (fun x7 h=> ?_))
 ·
  refine aQ h (fun c1 h=> ?_) (fun c1 h=> ?_)
  ·exact rk hC ([oN rS w_a0]++rF 3 c1) (fr 8 8) [(15,vB false)] [] [] (lE h)
  ·exact rk hC ([oN rS w_a0]++rT 3 c1) (fr 8 8) [(15,vB (decide (x3≤4)))] [] [] (lE h)
 ·refine aS h (fun c2 h=> ?_) (fun c2 h=> ?_)
  ·refine qk ?_
   obtain⟨j8,hj8,h⟩:=W0 h
   refine oU (γ:=Nat) (j:=j8) (r:=r) (fun x_ g_=>aX [(0,vM rS w_a0),(2,V.ref 20 0),(3,V.ref 21 0),(4,vI x3)] [(20,E.cells [vS [],V.t T.nilS]),(21,E.cells [vS x_.1,ms 22 g_ 1 rI x_.2]),(22,ar 3 g_ 1 rI x_.2)] [20,21,22]) ?_ ?_
   ·
    refine qb (qs (rq hC [] [18,19] [(19,vB (decide (x3=1)))] [] [] (aS h (fun c3 h=> ?_) (fun c3 h=> ?_))))
    ·obtain⟨x9,hx9,h⟩:=bd h
     exact rq hC [oR rS hx9] (fr 20 4) [] [(21,sc [vS x9,ms 22 g4 1 rI x2])] [] (cW ⟨(x9,x2),g4,h,lS⟩)
    ·refine qk ?_
     obtain⟨x10,hx10,x11,hx11,h⟩:=cO h
     refine rq hC [oR rS hx10,oV (T5 G hx11)] [5,6,24,25,26,27,28,29,30,31] [(5,vI x11.1)] [] [] ?_
     obtain⟨x12,hx12,h⟩:=bd h
     exact rk hC [.z (.int 0),oA (aP rI hx12),oQ (bW (r:=rI) 1 (fun _=>rfl) x2),oQ (bW (r:=rI) 1 (fun _=>rfl) [x11.1])] (fr 32 6) [] [(22,some (ar 3 (g4+1) 1 rI x12)),(21,sc [vS x1,ms 22 (g4+1) 1 rI x12])] [] ⟨(x1,x12),(g4+1),h,lS⟩
   ·rintro⟨x13,x14⟩ g15 h
    subst hj8
    exact rk hC [] [4,16,17] [(4,vI (wr (x3+1)))] [] [] ⟨(x13,x14,wr (x3+1)),g15,h,lS⟩
  ·obtain rfl:=so h
   exact cW (rq hC [.z (.at 2),.z (.fz 22 [] [21])] [38] [] [(21,sc [vS x1,vM rI x2]),(22,none),(20,sc [vS x1,vM rI x2])] [] (qr eR))
theorem kO(G:GS)(n:Nat){r:Affine}(h:jR n=some r):VQ G 120 [] [] (V.agg [ms 0 1 1 rI r.coefs,vI r.const]) [ar 3 1 1 rI r.coefs]:=by
 unfold jR at h
 refine vq aO Tryz.func120 rfl fun w X β0 hC hg=> ?_
 obtain rfl:=so h
 exact rq hC [.z (.nat 20)] [0] [(0,V.ref 20 0)] [(20,sc [V.t T.nilS,vI 0])] [(20,true)] (rq hC [.z (.int 1),.z (.nat 21)] [1,2] [] [(21,some (ar 3 1 1 rI [0,0,0,0])),(20,sc [ms 21 1 1 rI [0,0,0,0],vI 0])] [(21,true)] (qw (lk hC [.rn 21 0 [] [20]] [] [] [(20,sc [ms 0 1 1 rI [0,0,0,0],vI 0]),(21,none),(0,some (ar 3 1 1 rI [0,0,0,0]))] [(0,true)]) (qr eW)))
theorem aEp{s}{at_a1}{r}(h:M0 n s at_a1=some r):PQ G 394 [vS s,vI at_a1] (vI r):=by
 unfold M0 at h
 refine pq aO Tryz.func394 rfl fun w X hC=> ?_
 refine rq hC [] [4] [] [] [] (qs (vj h (fun x_=>aX [(0,vS s),(1,vI at_a1),(20,vB x_)] [] []) (fun j1 h=> ?_) (fun x3 h=> ?_)))
 ·
  refine aQ h (fun c1 h=> ?_) (fun c1 h=> ?_)
  ·obtain⟨x2,hx2,h⟩:=bd h
   refine aQ h (fun c2 h=> ?_) (fun c2 h=> ?_)
   ·exact rk hC (rF 3 c1++[oY hx2,oF c1,oF c1]++rF 3 c2++[oY hx2,oF c2,oF c2]) (fr 5 16) [(20,vB (decide ((108:Int)<(x2.toNat:Int))))] [] [] (lE h)
   ·exact rk hC (rF 3 c1++[oY hx2,oF c1,oF c1]++rT 5 c2) (fr 5 16) [(20,vB true)] [] [] (lE h)
  ·exact rk hC (rT 5 c1++sT 5) (fr 5 16) [(20,vB true)] [] [] (lE h)
 ·refine aS h (fun c3 h=> ?_) (fun c3 h=> ?_)
  ·obtain rfl:=so h
   exact rq hC [] [4] [(4,vI (-1))] [] [] (qr eR)
  ·refine qk ?_
   obtain⟨x4,hx4,h⟩:=bd h
   obtain rfl:=so h
   exact rq hC [oY hx4,.z (.int (x4.toNat:Int)),oQ (u8i x4)] [4,21,22,23,24,25] [(4,vI (wr ((x4.toNat:Int)-105)))] [] [] (qr eR)
theorem y6{s}{at_a1}{r}(h:rX n s at_a1=some r):PQ G 375 [vS s,vI at_a1] (V.tup [vI r.1,vI r.2]):=by
 unfold rX at h
 refine pq aO Tryz.func375 rfl fun w X hC=> ?_
 refine rq hC [] [4,5] [] [] [] (rq hC [] [6,9] [(6,vI at_a1)] [] [] (qs (qb (jN h (fun x_=>aX [(0,vS s),(1,vI at_a1),(6,vI x_)] [] []) lS ?_))))
 rintro again2 x1 h
 refine qs (vj h (fun x_=>aX [(0,vS s),(1,vI at_a1),(6,vI x1),(31,vB x_)] [] []) (fun j3 h=> ?_) (fun x5 h=> ?_))
 ·
  refine aQ h (fun c1 h=> ?_) (fun c1 h=> ?_)
  ·exact rk hC (rF 5 c1++sF 10) (fr 10 22) [(31,vB false)] [] [] (lE h)
  ·refine aQ h (fun c2 h=> ?_) (fun c2 h=> ?_)
   ·exact rk hC (rT 5 c1++rF 5 c2++sF 5) (fr 10 22) [(31,vB false)] [] [] (lE h)
   ·obtain⟨x4,hx4,h⟩:=bd h
    refine aQ h (fun c3 h=> ?_) (fun c3 h=> ?_)
    ·exact rk hC (rT 5 c1++rT 3 c2++[oY hx4,oT c2,oT c2]++rF 5 c3) (fr 10 22) [(31,vB false)] [] [] (lE h)
    ·exact rk hC (rT 5 c1++rT 3 c2++[oY hx4,oT c2,oT c2]++rT 3 c3++[oY hx4,oT c3,oT c3]) (fr 10 22) [(31,vB (decide ((x4.toNat:Int)≤57)))] [] [] (lE h)
 ·refine aS h (fun c4 h=> ?_) (fun c4 h=> ?_)
  ·exact qk (qb (rk hC [] [6,32,33] [(6,vI (wr (x1+1)))] [] [] (lE h)))
  ·refine cW ?_
   obtain⟨x6,hx6,x7,hx7,h⟩:=cO h
   refine rq hC [oS hx6,oV (T5 G hx7)] [7,8,34,35,36,37,38,39,40,41] [(7,vI x7.1),(8,vB x7.2)] [] [] (qs (rq hC [] [42,43] [(43,vB (!x7.2))] [] [] (aS h (fun c5 h=> ?_) (fun c5 h=> ?_))))
   ·obtain rfl:=so h
    exact rq hC [] [4,5,44] [(4,vI 1),(5,vI at_a1)] [] [] (qr eR)
   ·obtain rfl:=so h
    exact qk (rq hC [] [4,5,45,46] [(4,vI x7.1),(5,vI x1)] [] [] (qr eR))
theorem aCK{a}{s}{at_a2}{r}(h:zY n a s at_a2=some r):PQ G 390 [V.agg (aK a),vS s,vI at_a2] (V.tup [V.agg (aK r.1),vI r.2]):=by
 unfold zY at h
 refine pq aO Tryz.func390 rfl fun w X hC=> ?_
 refine rq hC [.z (.b (true)),.z (.nat 20)] [3,6,7] [(3,V.tp (aT a)),(6,V.ref 20 0)] [(20,sc [V.t T.nilS,vI 0])] [(20,true)] (rq hC [] [8] [(8,vI 1)] [] [] (vj h (fun x_=>aX [(1,vS s),(2,vI at_a2),(3,V.tp (aT a)),(6,V.ref 20 0),(8,vI x_)] [(20,E.cells [V.t T.nilS,vI 0])] [20]) (fun j1 h=> ?_) (fun x3 h=> ?_)))
 ·
  obtain⟨x2,hx2,h⟩:=bd h
  refine rq hC [oY hx2] (fr 14 4) [(17,vB (decide ((x2.toNat:Int)=45)))] [] [] (aS h (fun c1 h=> ?_) (fun c1 h=> ?_))
  ·exact rk hC [] [8] [(8,vI (-1))] [] [] (lE h)
  ·exact qk (lE h)
 ·refine vj h (fun x_=>aX [(1,vS s),(2,vI x_),(3,V.tp (aT a)),(6,V.ref 20 0),(8,vI x3)] [(20,E.cells [V.t T.nilS,vI 0])] [20]) (fun j4 h=> ?_) (fun x8 h=> ?_)
  ·
   refine vj h (fun x_=>aX [(1,vS s),(2,vI at_a2),(3,V.tp (aT a)),(6,V.ref 20 0),(8,vI x3),(27,vB x_)] [(20,E.cells [V.t T.nilS,vI 0])] [20]) (fun j5 h=> ?_) (fun x7 h=> ?_)
   ·
    obtain⟨x6,hx6,h⟩:=bd h
    refine aQ h (fun c2 h=> ?_) (fun c2 h=> ?_)
    ·exact rk hC ([oY hx6]++rF 3 c2++[oY hx6,oF c2,oF c2]) (fr 18 10) [(27,vB (decide ((x6.toNat:Int)=43)))] [] [] (lE h)
    ·exact rk hC ([oY hx6]++rT 5 c2) (fr 18 10) [(27,vB true)] [] [] (lE h)
   ·refine aS h (fun c3 h=> ?_) (fun c3 h=> ?_)
    ·exact rk hC [] [2,28,29] [(2,vI (wr (at_a2+1)))] [] [] (lE h)
    ·exact qk (lE h)
  ·obtain⟨x9,hx9,h⟩:=bd h
   refine rq hC [oV (y6 G hx9)] [9,10,30,31,32,33,34,35] [(9,vI x9.1),(10,vI x9.2)] [] [] (rq hC [] [11,36] [(11,vI x9.2)] [] [] (vj h (fun x_=>aX [(1,vS s),(2,vI x8),(3,V.tp (aT a)),(6,V.ref 20 0),(8,vI x3),(9,vI x9.1),(10,vI x9.2),(11,vI x_)] [(20,E.cells [V.t T.nilS,vI 0])] [20]) (fun j10 h=> ?_) (fun x14 h=> ?_)))
   ·
    refine vj h (fun x_=>aX [(1,vS s),(2,vI x8),(3,V.tp (aT a)),(6,V.ref 20 0),(8,vI x3),(9,vI x9.1),(10,vI x9.2),(11,vI x9.2),(51,vB x_)] [(20,E.cells [V.t T.nilS,vI 0])] [20]) (fun j11 h=> ?_) (fun x13 h=> ?_)
    ·
     refine aQ h (fun c4 h=> ?_) (fun c4 h=> ?_)
     ·exact rk hC (rF 5 c4++sF 5) (fr 37 15) [(51,vB false)] [] [] (lE h)
     ·refine aQ h (fun c5 h=> ?_) (fun c5 h=> ?_)
      ·exact rk hC (rT 5 c4++rF 5 c5) (fr 37 15) [(51,vB false)] [] [] (lE h)
      ·obtain⟨x12,hx12,h⟩:=bd h
       exact rk hC (rT 5 c4++rT 3 c5++[oY hx12,oT c5,oT c5]) (fr 37 15) [(51,vB (decide ((x12.toNat:Int)=42)))] [] [] (lE h)
    ·refine aS h (fun c6 h=> ?_) (fun c6 h=> ?_)
     ·exact rk hC [] [11,52,53] [(11,vI (wr (x9.2+1)))] [] [] (lE h)
     ·exact qk (lE h)
   ·obtain⟨x15,hx15,h⟩:=bd h
    refine rq hC [oV (aEp G hx15)] [12,54,55,56] [(12,vI x15)] [] [] (qs ?_)
    obtain⟨x16,hx16,h⟩:=bd h
    refine dk hC bA [.z (.nat 21),oA (aP rI hx16),.z (.nat 22),oQ (bW (r:=rI) 1 (fun _=>rfl) []),oQ (bW (r:=rI) 1 (fun _=>rfl) a.coefs)] [13,57,58,59,60,61,62,63] [(13,V.ref 22 0)] [(21,some (ar 3 2 1 rI x16)),(22,sc [ms 21 2 1 rI x16,vI a.const])] [(21,true),(22,true)] (qs (vj h (fun x_=>aX [(2,vI x8),(3,V.tp (aT a)),(6,V.ref 20 0),(8,vI x3),(9,vI x9.1),(10,vI x9.2),(11,vI x14),(12,vI x15),(13,V.ref 22 0),(75,vB x_)] [(20,E.cells [V.t T.nilS,vI 0]),(21,ar 3 2 1 rI x16),(22,E.cells [ms 21 2 1 rI x16,vI a.const])] [20,21,22]) (fun j17 h=> ?_) (fun x18 h=> ?_)))
    ·
     refine aQ h (fun c7 h=> ?_) (fun c7 h=> ?_)
     ·exact rk hC (rF 6 c7) (fr 64 12) [(75,vB false)] [] [] (lE h)
     ·refine aQ h (fun c8 h=> ?_) (fun c8 h=> ?_)
      ·exact rk hC (rT 4 c7++rF 3 c8++[oT c7,oF c8,oT c7]) (fr 64 12) [(75,vB (decide (x9.2=x8)))] [] [] (lE h)
      ·exact rk hC (rT 4 c7++rT 3 c8++[oT c7,oT c8,oT c7]) (fr 64 12) [(75,vB true)] [] [] (lE h)
    ·refine aS h (fun c9 h=> ?_) (fun c9 h=> ?_)
     ·refine qs ?_
      obtain⟨x19,hx19,x20,hx20,h⟩:=cO h
      obtain rfl:=so h
      exact dk hC bA [oQ (mO rI hx19),oX rI hx19,oQ (mO rI hx19),oX rI hx19,.z (.rows (List.map rI x20)),oQ (str rI hx20)] (fr 76 13) [] [(21,some (ar 3 2 1 rI x20))] [] (qw (yL hC [.lenc 22 0 (List.map rI x20).length] [] [] [(22,sc [ms 21 2 1 rI x20,vI a.const])] [] (a1 (lY rI hx20)) (by kernel_rfl)) (rq hC [.z (.at 5),.z (.fz 21 [] [22])] [7,89,90,91] [(7,vI (wr (x14+1)))] [(22,sc [vM rI x20,vI a.const]),(21,none),(20,sc [vM rI x20,vI a.const])] [] (qr eR)))
     ·refine qk (qs (rq hC [] [92,93,94] [(94,vB (decide (x9.2=x8)))] [] [] (aS h (fun c10 h=> ?_) (fun c10 h=> ?_))))
      ·obtain rfl:=so h
       exact rq hC [] [7,95] [(7,vI (-1))] [(20,some (E.cells (aK a)))] [] (qr eR)
      ·obtain rfl:=so h
       exact qk (rq hC [] (fr 96 7) [] [(22,sc [ms 21 2 1 rI x16,vI (wr (a.const+(wr (x3*x9.1))))])] [] (rq hC [.z (.at 4),.z (.fz 21 [] [22])] [7,103,104] [(7,vI x9.2)] [(22,sc [vM rI x16,vI (wr (a.const+(wr (x3*x9.1))))]),(21,none),(20,sc [vM rI x16,vI (wr (a.const+(wr (x3*x9.1))))])] [] (qr eR)))
theorem tC(G:GS): ∀(n:Nat) (n_a0:Int) {r:(List UInt8)} (h:s_l16Dec n n_a0=some r),PQ G 326 [vI n_a0] (vS r):=by
 intro n
 induction n with
 |zero=>intro n_a0 r h;rw [s_l16Dec.eq_def] at h;cases h
 |succ n ih=>
  intro n_a0 r h
  rw [s_l16Dec.eq_def] at h;dsimp only at h
  refine pq aO Tryz.func326 rfl fun w X hC=> ?_
  refine rq hC [] [2] [] [] [] (qs (rq hC [] [4,5] [(5,vB (decide (n_a0<(-9223372036854775807))))] [] [] (aS h (fun c1 h=> ?_) (fun c1 h=> ?_))))
  ·obtain rfl:=so h
   exact rq hC [] [2] [(2,vS [45,57,50,50,51,51,55,50,48,51,54,56,53,52,55,55,53,56,48,56])] [] [] (qr eR)
  ·refine qk (qs (rq hC [] [6,7] [(7,vB (decide (n_a0<0)))] [] [] (aS h (fun c2 h=> ?_) (fun c2 h=> ?_))))
   ·obtain⟨x1,hx1,x2,hx2,h⟩:=cO h
    obtain rfl:=so h
    exact rq hC [oV (ih (wr (0-n_a0)) hx1),oS hx2] [2,8,9,10,11] [(2,vS x2)] [] [] (qr eR)
   ·refine qk (rq hC [] [3] [(3,vS [])] [] [] (qs (qb (jN h (fun x_=>aX [(0,vI x_.1),(3,vS x_.2)] [] []) lS ?_))))
    rintro again5 ⟨x3,x4⟩ h
    refine qs (rq hC [] [12,13] [(13,vB (decide ((9:Int)<x3)))] [] [] (aS h (fun c3 h=> ?_) (fun c3 h=> ?_)))
    ·refine qk (qb ?_)
     obtain⟨x6,hx6,h⟩:=bd h
     exact rq hC [.z (.y (UInt8.ofInt (wr (48+(Int.tmod x3 10))))),.z (.int 0),.z (.str [UInt8.ofInt (wr (48+(Int.tmod x3 10)))]),oQ (show(10:Int)≠0 by decide),oQ (Eq.refl (UInt8.ofInt (wr (48+(Int.tmod x3 10))))),oQ (Eq.refl (List.map lX [UInt8.ofInt (wr (48+(Int.tmod x3 10)))])),oS hx6] [3,14,15,16,17,18,19,20,21] [(3,vS x6)] [] [] (rk hC [oQ (show(10:Int)≠0 by decide)] [0,22,23] [(0,vI (wr (Int.tdiv x3 10)))] [] [] (lE h))
    ·refine cW ?_
     obtain⟨x7,hx7,h⟩:=bd h
     obtain rfl:=so h
     exact rq hC [.z (.y (UInt8.ofInt (wr (48+x3)))),.z (.int 0),.z (.str [UInt8.ofInt (wr (48+x3))]),oQ (Eq.refl (UInt8.ofInt (wr (48+x3)))),oQ (Eq.refl (List.map lX [UInt8.ofInt (wr (48+x3))])),oS hx7] [2,24,25,26,27,28,29,30] [(2,vS x7)] [] [] (qr eR)
theorem T0{n_a0}{name}{r}(h:yB n n_a0 name=some r):PQ G 376 [vI n_a0,vS name] (vS r):=by
 unfold yB at h
 refine pq aO Tryz.func376 rfl fun w X hC=> ?_
 refine rq hC [] [4] [] [] [] (rq hC [] [5] [(5,vS [43])] [] [] (vj h (fun x_=>aX [(0,vI x_.1),(1,vS name),(5,vS x_.2)] [] []) (fun j1 h=> ?_) ?_))
 ·
  refine rq hC [] [6,7] [(7,vB (decide (n_a0<0)))] [] [] (aS h (fun c1 h=> ?_) (fun c1 h=> ?_))
  ·exact rq hC [] [5] [(5,vS [45])] [] [] (rk hC [] [0,8,9] [(0,vI (wr (0-n_a0)))] [] [] (lE h))
  ·exact qk (lE h)
 ·rintro⟨x2,x3⟩ h
  refine qs (rq hC [] [10,11] [(11,vB (decide (name=[])))] [] [] (aS h (fun c2 h=> ?_) (fun c2 h=> ?_)))
  ·obtain⟨x4,hx4,x5,hx5,h⟩:=cO h
   obtain rfl:=so h
   exact rq hC [oV (tC G n x2 hx4),oS hx5] [4,12,13,14,15] [(4,vS x5)] [] [] (qr eR)
  ·refine qk (qs (rq hC [] [16,17] [(17,vB (decide (x2=1)))] [] [] (aS h (fun c3 h=> ?_) (fun c3 h=> ?_))))
   ·obtain⟨x6,hx6,h⟩:=bd h
    obtain rfl:=so h
    exact rq hC [oS hx6] [4,18,19,20] [(4,vS x6)] [] [] (qr eR)
   ·refine qk ?_
    obtain⟨x7,hx7,x8,hx8,x9,hx9,h⟩:=kX h
    obtain⟨x10,hx10,h⟩:=bd h
    obtain rfl:=so h
    exact rq hC [oV (tC G n x2 hx7),oS hx8,oS hx9,oS hx10] [4,21,22,23,24,25,26,27] [(4,vS x10)] [] [] (qr eR)
theorem xF{a}{r}(h:uF n a=some r):PQ G 356 [V.agg (aK a)] (vS r):=by
 unfold uF at h
 refine pq aO Tryz.func356 rfl fun w X hC=> ?_
 refine rq hC [.z (.b (true))] [1,2] [(1,V.tp (aT a))] [] [] (rq hC [] [3] [(3,vS [])] [] [] (qs (rq hC [] [4] [(4,vI 0)] [] [] (qb (jN h (fun x_=>aX [(1,V.tp (aT a)),(3,vS x_.1),(4,vI x_.2)] [] []) lS ?_)))))
 rintro again3 ⟨x1,x2⟩ h
 refine qs (rq hC [oN rI a.coefs] (fr 5 5) [(9,vB (decide (x2<(a.coefs.length:Int))))] [] [] (aS h (fun c1 h=> ?_) (fun c1 h=> ?_)))
 ·refine qk (vj h (fun x_=>aX [(1,V.tp (aT a)),(3,vS x_),(4,vI x2)] [] []) (fun j4 h=> ?_) (fun x9 h=> ?_))
  ·
   refine qb ?_
   obtain⟨x5,hx5,h⟩:=bd h
   refine rq hC [oR rI hx5] (fr 12 6) [(17,vB (!decide (x5=0)))] [] [] (aS h (fun c2 h=> ?_) (fun c2 h=> ?_))
   ·obtain⟨x6,hx6,x7,hx7,x8,hx8,h⟩:=kX h
    exact dk hC bA [oR rI hx5,oS hx6,oV (T0 G hx7),oS hx8] [3,18,19,20,21,22,23,24,25,26,27,28,29] [(3,vS x8)] [] [] (lE h)
   ·exact qk (lE h)
  ·exact rk hC [] [4,10,11] [(4,vI (wr (x2+1)))] [] [] (lE h)
 ·refine cW (vj h (fun x_=>aX [(3,vS x_)] [] []) (fun j10 h=> ?_) (fun x13 h=> ?_))
  ·
   refine rq hC [] [30,31,32] [(32,vB (!decide (a.const=0)))] [] [] (aS h (fun c3 h=> ?_) (fun c3 h=> ?_))
   ·obtain⟨x11,hx11,x12,hx12,h⟩:=cO h
    exact rk hC [oV (T0 G hx11),oS hx12] [3,33,34,35,36,37] [(3,vS x12)] [] [] (lE h)
   ·exact qk (lE h)
  ·refine qs (rq hC [] [38,39] [(39,vB (decide (x13=[])))] [] [] (aS h (fun c4 h=> ?_) (fun c4 h=> ?_)))
   ·obtain rfl:=so h
    exact rq hC [] [2] [(2,vS [48])] [] [] (qr eR)
   ·refine qk (qs ?_)
    obtain⟨x14,hx14,h⟩:=bd h
    refine rq hC [oS hx14] [40,41,42] [(42,vB (decide (x14=[43])))] [] [] (aS h (fun c5 h=> ?_) (fun c5 h=> ?_))
    ·obtain⟨x15,hx15,h⟩:=bd h
     obtain rfl:=so h
     exact rq hC [oS hx15] [2,43,44] [(2,vS x15)] [] [] (qr eR)
    ·obtain rfl:=so h
     exact qk (rq hC [] [2,45] [(2,vS x13)] [] [] (qr eR))
theorem C9{a}{r}(h:o9 n a=some r):PQ G 391 [V.agg (aK a)] (vS r):=by
 unfold o9 at h
 refine pq aO Tryz.func391 rfl fun w X hC=> ?_
 refine rq hC [.z (.b (true))] [1,2] [(1,V.tp (aT a))] [] [] (qs ?_)
 obtain⟨x1,hx1,h⟩:=bd h
 refine rq hC [oV (eE G hx1)] [3,4,5] [(5,vB (!x1))] [] [] (aS h (fun c1 h=> ?_) (fun c1 h=> ?_))
 ·obtain rfl:=so h
  exact rq hC [] [2] [(2,vS [])] [] [] (qr eR)
 ·refine qk ?_
  obtain⟨x2,hx2,h⟩:=bd h
  obtain rfl:=so h
  exact rq hC [oV (xF G hx2)] [2,6,7] [(2,vS x2)] [] [] (qr eR)
theorem tK{text}{r}(h:mN n text=some r):PQ G 372 [vS text] (V.tup [V.agg (aK r.1),vB r.2]):=by
 unfold mN at h
 refine pq aO Tryz.func372 rfl fun w X hC=> ?_
 refine rq hC [.z (.nat 20)] [2,3] [(2,V.ref 20 0)] [(20,sc [V.t T.nilS,vI 0])] [(20,true)] ?_
 obtain⟨x1,hx1,h⟩:=bd h
 refine rq hC [oC [] [21] (kO G n hx1),.z (.nat 22)] [4,6] [(4,V.ref 22 0)] [(21,some (ar 3 1 1 rI x1.coefs)),(22,sc [ms 21 1 1 rI x1.coefs,vI x1.const])] [(21,true),(22,true)] (qs (rq hC [] [7,8,9] [(9,vB (decide ((40:Int)<(text.length:Int))))] [] [] (aS h (fun c1 h=> ?_) (fun c1 h=> ?_))))
 ·obtain rfl:=so h
  exact rq hC [] [3,10] [(3,vB false)] [(20,sc [V.t T.nilS,vI 0])] [] (qr eR)
 ·refine qk (rq hC [] [5] [(5,vI 0)] [] [] (qs (qb (qw (lk hC [.fz 21 [] [22]] [] [] [(22,some (E.cells (aK x1))),(21,none)] []) (jN h (fun x_=>aX [(0,vS text),(2,V.ref 20 0),(4,V.ref 22 0),(5,vI x_.2.2)] [(20,E.cells [V.t T.nilS,vI 0]),(22,E.cells [vM rI x_.1,vI x_.2.1])] [20,21,22]) lS ?_)))))
  rintro again5 ⟨x2,x3,x4⟩ h
  refine qs (vj h (fun x_=>aX [(0,vS text),(2,V.ref 20 0),(4,V.ref 22 0),(5,vI x4),(18,vB x_)] [(20,E.cells [V.t T.nilS,vI 0]),(22,E.cells [vM rI x2,vI x3])] [20,21,22]) (fun j6 h=> ?_) (fun x7 h=> ?_))
  ·
   refine aQ h (fun c2 h=> ?_) (fun c2 h=> ?_)
   ·exact rk hC (rF 5 c2) (fr 11 8) [(18,vB false)] [] [] (lE h)
   ·exact rk hC (rT 5 c2) (fr 11 8) [(18,vB (decide (x4<(text.length:Int))))] [] [] (lE h)
  ·refine aS h (fun c3 h=> ?_) (fun c3 h=> ?_)
   ·refine qk (qb ?_)
    obtain⟨x8,hx8,h⟩:=bd h
    exact rk hC [oV (aCK G hx8)] [5,19,20,21,22,23,24,25] [(5,vI x8.2)] [(22,some (E.cells (aK x8.1)))] [] (lE h)
   ·refine cW (qs ?_)
    obtain⟨x9,hx9,h⟩:=bd h
    refine rq hC [oV (C9 G hx9)] (fr 26 4) [(29,vB (!decide (x9=text)))] [] [] (aS h (fun c4 h=> ?_) (fun c4 h=> ?_))
    ·obtain rfl:=so h
     exact rq hC [] [3,30] [(3,vB false)] [(20,sc [V.t T.nilS,vI 0])] [] (qr eR)
    ·obtain rfl:=so h
     exact qk (rq hC [] [3,31] [(3,vB true)] [(20,sc [vM rI x2,vI x3])] [] (qr eR))
theorem nJ{text}{r}(h:jQ n text=some r):VQ G 351 [] [vS text] (ms 0 1 2 aA r) [ar 79 1 2 aA r]:=by
 unfold jQ at h
 refine vq aO Tryz.func351 rfl fun w X β0 hC hg=> ?_
 refine rq hC [] [2] [] [] [] (rq hC [.z (.nat 20)] [3,8] [(3,ms 20 1 2 aA [])] [(20,some (ar 79 1 2 aA []))] [(20,true)] ?_)
 obtain⟨x1,hx1,h⟩:=bd h
 refine rq hC [oC [] [21] (xK G hx1)] [4,9,10] [(4,ms 21 1 1 rS x1)] [(21,some (ar 9 1 1 rS x1))] [(21,true)] (qs (rq hC [] [5] [(5,vI 0)] [] [] (qb (bF (γ:=Nat) h (fun x_ g_=>aX [(3,ms 20 g_ 2 aA x_.1),(4,ms 21 1 1 rS x1),(5,vI x_.2)] [(20,ar 79 g_ 2 aA x_.1),(21,ar 9 1 1 rS x1)] [20,21]) 1 (lS) ?_))))
 rintro again5 ⟨x2,x3⟩ g4 h
 refine qs (vj h (fun x_=>aX [(3,ms 20 g4 2 aA x2),(4,ms 21 1 1 rS x1),(5,vI x3),(18,vB x_)] [(20,ar 79 g4 2 aA x2),(21,ar 9 1 1 rS x1)] [20,21]) (fun j6 h=> ?_) (fun x7 h=> ?_))
 ·
  refine aQ h (fun c1 h=> ?_) (fun c1 h=> ?_)
  ·exact rk hC ([oN rS x1]++rF 3 c1) (fr 11 8) [(18,vB false)] [] [] (lE h)
  ·exact rk hC ([oN rS x1]++rT 3 c1) (fr 11 8) [(18,vB (decide (x3≤2)))] [] [] (lE h)
 ·refine aS h (fun c2 h=> ?_) (fun c2 h=> ?_)
  ·refine qk (qs (qb ?_))
   obtain⟨x8,hx8,x9,hx9,h⟩:=cO h
   refine rq hC [oQ (mO rS hx8),oX rS hx8,oV (tK G hx9),.z (.nat 22)] [6,7,21,22,23,24,25,26,27,28] [(6,V.ref 22 0)] [(22,some (E.cells (aK x9.1)))] [(22,true)] ?_
   obtain⟨x10,hx10,h⟩:=bd h
   exact rk hC [.z (.int 0),oA (aP aA hx10),oQ (bW (r:=aA) 2 aW x2),oQ (bW (r:=aA) 2 aW [x9.1])] [3,29,30,31,32] [(3,ms 20 (g4+1) 2 aA x10)] [(20,some (ar 79 (g4+1) 2 aA x10))] [] (rk hC [] [5,19,20] [(5,vI (wr (x3+1)))] [] [] ⟨(x10,wr (x3+1)),(g4+1),h,lS⟩)
  ·obtain rfl:=so h
   exact cW (rq hC [] [2,33] [(2,ms 20 g4 2 aA x2)] [] [] (qw (lk hC [.ren 2 20 0] [2] [(2,ms 0 1 2 aA x2)] [(0,some (ar 79 1 2 aA x2)),(20,none)] [(0,true)]) (qr eW)))
theorem aEn{line}{r}(h:L9 n line=some r):PQ G 324 [vS line] (V.agg (gX r)):=by
 unfold L9 at h
 refine pq aO Tryz.func324 rfl fun w X hC=> ?_
 refine rq hC [.z (.nat 20)] [2] [(2,V.ref 20 0)] [(20,sc [V.t T.nilS,V.t T.nilS])] [(20,true)] ?_
 obtain⟨x1,hx1,h⟩:=bd h
 refine rq hC [oC [] [21] (y7 G hx1)] [3,4,5] [(3,ms 21 1 1 rS x1)] [(21,some (ar 9 1 1 rS x1))] [(21,true)] (qs (rq hC [oN rS x1] [6,7,8] [(8,vB (!decide ((x1.length:Int)=3)))] [] [] (aS h (fun c1 h=> ?_) (fun c1 h=> ?_))))
 ·obtain rfl:=so h
  exact rq hC [] [9] [] [(20,sc [V.t T.nilS,V.t T.nilS])] [] (qr eR)
 ·refine qk (qs ?_)
  obtain⟨x2,hx2,x3,hx3,x4,hx4,h⟩:=kX h
  obtain⟨x5,hx5,h⟩:=bd h
  obtain rfl:=so h
  exact dk hC bA [oQ (mO rS hx2),oX rS hx2,oC [] [22] (nJ G hx3),oQ (mO rS hx4),oX rS hx4,oC [] [23] (nJ G hx5)] (fr 10 9) [] [(22,some (ar 79 1 2 aA x3)),(23,some (ar 79 1 2 aA x5)),(20,sc [ms 22 1 2 aA x3,ms 23 1 2 aA x5])] [(22,true),(23,true)] (qw (lk hC [.fz 22 [] [20]] [] [] [(20,sc [vM aA x3,ms 23 1 2 aA x5]),(22,none)] []) (qw (lk hC [.fz 23 [] [20]] [] [] [(20,sc [vM aA x3,vM aA x5]),(23,none)] []) (qr eR)))
theorem F7{s}{at_a1}{end_a2}{r}(h:vH n s at_a1 end_a2=some r):PQ G 373 [vS s,vI at_a1,vY end_a2] (vI r):=by
 unfold vH at h
 refine pq aO Tryz.func373 rfl fun w X hC=> ?_
 refine rq hC [] [6] [] [] [] (qs (rq hC [] [7,8] [(7,vI at_a1)] [] [] (qb (jN h (fun x_=>aX [(0,vS s),(2,vY end_a2),(7,vI x_)] [] []) lS ?_))))
 rintro again2 x1 h
 refine qs (rq hC [] (fr 9 4) [(12,vB (decide (x1<(s.length:Int))))] [] [] (aS h (fun c1 h=> ?_) (fun c1 h=> ?_)))
 ·refine qk (qs (qb ?_))
  obtain⟨x3,hx3,h⟩:=bd h
  refine rq hC [oY hx3] (fr 15 5) [(19,vB (decide ((x3.toNat:Int)=(end_a2.toNat:Int))))] [] [] (aS h (fun c2 h=> ?_) (fun c2 h=> ?_))
  ·obtain rfl:=so h
   exact rq hC [] [6,20] [(6,vI x1)] [] [] (qr eR)
  ·exact qk (rk hC [] [7,13,14] [(7,vI (wr (x1+1)))] [] [] (lE h))
 ·obtain rfl:=so h
  exact cW (rq hC [] [6] [(6,vI (-1))] [] [] (qr eR))
theorem qA{s}{at_a1}{r}(h:kC n s at_a1=some r):PQ G 352 [vS s,vI at_a1] (V.tup [V.agg (cF r.1),vI r.2]):=by
 unfold kC at h
 refine pq aO Tryz.func352 rfl fun w X hC=> ?_
 refine rq hC [.z (.nat 20)] [4,5] [(4,V.ref 20 0)] [(20,sc [vS [],V.t T.nilS])] [(20,true)] ?_
 obtain⟨x1,hx1,h⟩:=bd h
 refine rq hC [oV (F7 G hx1)] (fr 6 4) [(6,vI x1)] [] [] (qs (vj h (fun x_=>aX [(0,vS s),(1,vI at_a1),(4,V.ref 20 0),(6,vI x1),(20,vB x_)] [(20,E.cells [vS [],V.t T.nilS])] [20]) (fun j2 h=> ?_) (fun x4 h=> ?_)))
 ·
  refine aQ h (fun c1 h=> ?_) (fun c1 h=> ?_)
  ·obtain⟨x3,hx3,h⟩:=bd h
   exact rk hC (rF 4 c1++[oY hx3,oF c1,oF c1]) (fr 10 11) [(20,vB (!decide ((x3.toNat:Int)=91)))] [] [] (lE h)
  ·exact rk hC (rT 6 c1) (fr 10 11) [(20,vB true)] [] [] (lE h)
 ·refine aS h (fun c2 h=> ?_) (fun c2 h=> ?_)
  ·obtain rfl:=so h
   exact rq hC [] [5,21] [(5,vI (-1))] [(20,sc [vS [],V.t T.nilS])] [] (qr eR)
  ·refine qk (qs ?_)
   obtain⟨x5,hx5,x6,hx6,x7,hx7,h⟩:=kX h
   obtain rfl:=so h
   exact dk hC bA [oS hx5,oS hx6,oC [] [21] (nJ G hx7)] [5,22,23,24,25,26,27,28,29,30,31,32,33,34,35] [(5,vI (wr (x1+1)))] [(21,some (ar 79 1 2 aA x7)),(20,sc [vS x5,ms 21 1 2 aA x7])] [(21,true)] (qw (lk hC [.fz 21 [] [20]] [] [] [(20,sc [vS x5,vM aA x7]),(21,none)] []) (qr eR))
theorem aCE(G:GS)(n:Nat)(self:(List UInt8)→Int→Int→Option (Expr×Int))(hself: ∀(q0:List UInt8) (q1:Int) (q2:Int) {r:Expr×Int},self q0 q1 q2=some r→PQ G 353 [vS q0,vI q1,vI q2] (V.tup [V.agg (cU r.1),vI r.2]))(s:List UInt8)(at_a1:Int)(levels:Int){r:Expr×Int}(h:zW n self s at_a1 levels=some r):PQ G 374 [vS s,vI at_a1,vI levels] (V.tup [V.agg (cU r.1),vI r.2]):=by
 unfold zW at h
 refine pq aO Tryz.func374 rfl fun w X hC=> ?_
 refine rq hC [.z (.nat 20)] [6,7] [(6,V.ref 20 0)] [(20,sc [vI 0,vI 0,V.t T.nilS,vI 0,vS [],V.t T.nilS,V.t T.nilS])] [(20,true)] ?_
 obtain⟨x1,hx1,h⟩:=bd h
 refine rq hC [oV (hself s at_a1 levels hx1),.z (.nat 21)] [8,9,13,14,15,16,17,18,19] [(8,V.ref 21 0),(9,vI x1.2)] [(21,some (E.cells (cU x1.1)))] [(21,true)] (qs (vj h (fun x_=>aX [(0,vS s),(2,vI levels),(6,V.ref 20 0),(8,V.ref 21 0),(9,vI x1.2),(27,vB x_)] [(20,E.cells [vI 0,vI 0,V.t T.nilS,vI 0,vS [],V.t T.nilS,V.t T.nilS]),(21,E.cells (cU x1.1))] [20,21]) (fun j2 h=> ?_) (fun x3 h=> ?_)))
 ·
  refine aQ h (fun c1 h=> ?_) (fun c1 h=> ?_)
  ·exact rk hC (rF 5 c1) (fr 20 8) [(27,vB (decide ((s.length:Int)≤x1.2)))] [] [] (lE h)
  ·exact rk hC (rT 5 c1) (fr 20 8) [(27,vB true)] [] [] (lE h)
 ·refine aS h (fun c2 h=> ?_) (fun c2 h=> ?_)
  ·obtain rfl:=so h
   exact rq hC [] [7,28] [(7,vI (-1))] [(20,sc [vI 0,vI 0,V.t T.nilS,vI 0,vS [],V.t T.nilS,V.t T.nilS])] [] (qr eR)
  ·refine qk (rq hC [] [10] [(10,vI 4)] [] [] (vj h (fun x_=>aX [(0,vS s),(2,vI levels),(6,V.ref 20 0),(8,V.ref 21 0),(9,vI x1.2),(10,vI x_)] [(20,E.cells [vI 0,vI 0,V.t T.nilS,vI 0,vS [],V.t T.nilS,V.t T.nilS]),(21,E.cells (cU x1.1))] [20,21]) (fun j4 h=> ?_) (fun x6 h=> ?_)))
   ·
    obtain⟨x5,hx5,h⟩:=bd h
    refine rq hC [oY hx5] [29,30,31] [(31,vY x5)] [] [] (qb (rq hC [] [32,33] [(32,vB (decide ((x5.toNat:Int)=45)))] [] [] (aS h (fun c3 h=> ?_) (fun c3 h=> ?_))))
    ·exact rk hC [] [10] [(10,vI 5)] [] [] (lE h)
    ·refine rq hC [] [34,35] [(34,vB (decide ((x5.toNat:Int)=42)))] [] [] (aS h (fun c4 h=> ?_) (fun c4 h=> ?_))
     ·exact rk hC [] [10] [(10,vI 6)] [] [] (lE h)
     ·exact qk (lE h)
   ·obtain⟨x7,hx7,h⟩:=bd h
    refine rq hC [oV (hself s (wr (x1.2+1)) levels hx7),.z (.nat 22)] [11,12,36,37,38,39,40,41,42,43] [(11,V.ref 22 0),(12,vI x7.2)] [(22,some (E.cells (cU x7.1)))] [(22,true)] (qs (vj h (fun x_=>aX [(6,V.ref 20 0),(8,V.ref 21 0),(10,vI x6),(11,V.ref 22 0),(12,vI x7.2),(51,vB x_)] [(20,E.cells [vI 0,vI 0,V.t T.nilS,vI 0,vS [],V.t T.nilS,V.t T.nilS]),(21,E.cells (cU x1.1)),(22,E.cells (cU x7.1))] [20,21,22]) (fun j8 h=> ?_) (fun x9 h=> ?_)))
    ·
     refine aQ h (fun c5 h=> ?_) (fun c5 h=> ?_)
     ·exact rk hC (rF 5 c5) (fr 44 8) [(51,vB (decide ((s.length:Int)≤x7.2)))] [] [] (lE h)
     ·exact rk hC (rT 5 c5) (fr 44 8) [(51,vB true)] [] [] (lE h)
    ·refine aS h (fun c6 h=> ?_) (fun c6 h=> ?_)
     ·obtain rfl:=so h
      exact rq hC [] [7,52] [(7,vI (-1))] [(20,sc [vI 0,vI 0,V.t T.nilS,vI 0,vS [],V.t T.nilS,V.t T.nilS])] [] (qr eR)
     ·obtain rfl:=so h
      exact qk (rq hC [.z (.int 2),.z (.rows (List.map aI [x1.1,x7.1])),oQ (aJs x1.1 x7.1)] [7,53,54,55,56,57,58,59] [(7,vI (wr (x7.2+1)))] [(20,sc [vI x6,vI 0,V.t T.nilS,vI 0,vS [],V.t T.nilS,vM aI [x1.1,x7.1]])] [] (qr eR))
theorem aCG(G:GS): ∀(n:Nat) (s:List UInt8) (at_a1:Int) (levels:Int) {r:Expr×Int} (h:s_l3Parse n s at_a1 levels=some r),PQ G 353 [vS s,vI at_a1,vI levels] (V.tup [V.agg (cU r.1),vI r.2]):=by
 intro n
 induction n with
 |zero=>intro s at_a1 levels r h;rw [s_l3Parse.eq_def] at h;cases h
 |succ n ih=>
  intro s at_a1 levels r h
  rw [s_l3Parse.eq_def] at h;dsimp only at h
  refine pq aO Tryz.func353 rfl fun w X hC=> ?_
  refine rq hC [.z (.nat 20)] [6,7] [(6,V.ref 20 0)] [(20,sc [vI 0,vI 0,V.t T.nilS,vI 0,vS [],V.t T.nilS,V.t T.nilS])] [(20,true)] (qs (vj h (fun x_=>aX [(0,vS s),(1,vI at_a1),(2,vI levels),(6,V.ref 20 0),(26,vB x_)] [(20,E.cells [vI 0,vI 0,V.t T.nilS,vI 0,vS [],V.t T.nilS,V.t T.nilS])] [20]) (fun j1 h=> ?_) (fun x2 h=> ?_)))
  ·
   refine aQ h (fun c1 h=> ?_) (fun c1 h=> ?_)
   ·refine aQ h (fun c2 h=> ?_) (fun c2 h=> ?_)
    ·exact rk hC (rF 3 c1++rF 5 c2) (fr 15 12) [(26,vB (decide ((s.length:Int)≤at_a1)))] [] [] (lE h)
    ·exact rk hC (rF 3 c1++rT 5 c2) (fr 15 12) [(26,vB true)] [] [] (lE h)
   ·exact rk hC (rT 3 c1++sT 5) (fr 15 12) [(26,vB true)] [] [] (lE h)
  ·refine aS h (fun c3 h=> ?_) (fun c3 h=> ?_)
   ·obtain rfl:=so h
    exact rq hC [] [7,27] [(7,vI (-1))] [(20,sc [vI 0,vI 0,V.t T.nilS,vI 0,vS [],V.t T.nilS,V.t T.nilS])] [] (qr eR)
   ·refine qk (qs (qb ?_))
    obtain⟨x3,hx3,h⟩:=bd h
    refine rq hC [oY hx3] (fr 28 5) [(28,vB (decide ((x3.toNat:Int)=123)))] [] [] (aS h (fun c4 h=> ?_) (fun c4 h=> ?_))
    ·obtain⟨x4,hx4,h⟩:=bd h
     refine rq hC [oV (F7 G hx4)] [8,33,34,35] [(8,vI x4)] [] [] (qs (rq hC [] [36,37] [(37,vB (decide (x4<0)))] [] [] (aS h (fun c5 h=> ?_) (fun c5 h=> ?_))))
     ·obtain rfl:=so h
      exact rq hC [] [7,38] [(7,vI (-1))] [(20,sc [vI 0,vI 0,V.t T.nilS,vI 0,vS [],V.t T.nilS,V.t T.nilS])] [] (qr eR)
     ·refine qk ?_
      obtain⟨x5,hx5,x6,hx6,h⟩:=cO h
      obtain rfl:=so h
      exact rq hC [oS hx5,oV (tK G hx6),.z (.nat 21)] [9,10,39,40,41,42,43,44,45,46,47] [(9,V.ref 21 0)] [(21,some (E.cells (aK x6.1)))] [(21,true)] (rq hC [] [7,48,49,50,51] [(7,vI (wr (x4+1)))] [(20,sc [vI 2,vI 0,vM rI x6.1.coefs,vI x6.1.const,vS [],V.t T.nilS,V.t T.nilS])] [] (qr eR))
    ·refine vj h (fun x_=>aX [(0,vS s),(1,vI at_a1),(2,vI levels),(6,V.ref 20 0),(52,vB x_)] [(20,E.cells [vI 0,vI 0,V.t T.nilS,vI 0,vS [],V.t T.nilS,V.t T.nilS])] [20]) (fun j7 h=> ?_) (fun x8 h=> ?_)
     ·
      refine aQ h (fun c6 h=> ?_) (fun c6 h=> ?_)
      ·exact rk hC ([oY hx3]++rF 5 c6) (fr 52 11) [(52,vB false)] [] [] (lE h)
      ·exact rk hC ([oY hx3]++rT 3 c6++[oY hx3,oT c6,oT c6]) (fr 52 11) [(52,vB (decide ((x3.toNat:Int)≤68)))] [] [] (lE h)
     ·refine aS h (fun c7 h=> ?_) (fun c7 h=> ?_)
      ·obtain⟨x9,hx9,h⟩:=bd h
       obtain rfl:=so h
       exact rq hC [oV (qA G hx9),.z (.nat 21)] [11,12,63,64,65,66,67,68] [(11,V.ref 21 0),(12,vI x9.2)] [(21,some (E.cells (cF x9.1)))] [(21,true)] (rq hC [] [7,69,70,71] [(7,vI x9.2)] [(20,sc [vI 3,vI 0,V.t T.nilS,vI 0,vS x9.1.array,vM aA x9.1.subs,V.t T.nilS])] [] (qr eR))
      ·refine rq hC [oY hx3] (fr 72 5) [(72,vB (decide ((x3.toNat:Int)=40)))] [] [] (aS h (fun c8 h=> ?_) (fun c8 h=> ?_))
       ·obtain⟨x10,hx10,h⟩:=bd h
        obtain rfl:=so h
        exact rq hC [oV (aCE G n (s_l3Parse n) (fun q0 q1 q2 r h=>ih q0 q1 q2 h) s (wr (at_a1+1)) (wr (levels-1)) hx10)] [7,77,78,79,80,81,82,83,84] [(7,vI x10.2)] [(20,some (E.cells (cU x10.1)))] [] (qr eR)
       ·refine qk ?_
        obtain⟨x11,hx11,h⟩:=bd h
        refine rq hC [oV (y6 G hx11)] [13,14,85,86,87,88,89,90] [(13,vI x11.1),(14,vI x11.2)] [] [] (qs (rq hC [] [91,92,93] [(93,vB (decide (x11.2=at_a1)))] [] [] (aS h (fun c9 h=> ?_) (fun c9 h=> ?_))))
        ·obtain rfl:=so h
         exact rq hC [] [7,94] [(7,vI (-1))] [(20,sc [vI 0,vI 0,V.t T.nilS,vI 0,vS [],V.t T.nilS,V.t T.nilS])] [] (qr eR)
        ·obtain rfl:=so h
         exact qk (rq hC [] [7,95,96,97] [(7,vI x11.2)] [(20,sc [vI 1,vI x11.1,V.t T.nilS,vI 0,vS [],V.t T.nilS,V.t T.nilS])] [] (qr eR))
theorem pN{list}{r}(h:lA n list=some r):PQ G 355 [vM aA list] (vS r):=by
 unfold lA at h
 refine pq aO Tryz.func355 rfl fun w X hC=> ?_
 refine rq hC [] [2] [] [] [] (rq hC [] [3] [(3,vS [])] [] [] (qs (rq hC [] [4] [(4,vI 0)] [] [] (qb (jN h (fun x_=>aX [(0,vM aA list),(3,vS x_.1),(4,vI x_.2)] [] []) lS ?_)))))
 rintro again3 ⟨x1,x2⟩ h
 refine qs (rq hC [oN aA list] (fr 5 4) [(8,vB (decide (x2<(list.length:Int))))] [] [] (aS h (fun c1 h=> ?_) (fun c1 h=> ?_)))
 ·refine qk (qs (qb (vj h (fun x_=>aX [(0,vM aA list),(3,vS x_),(4,vI x2)] [] []) (fun j4 h=> ?_) (fun x6 h=> ?_))))
  ·
   refine rq hC [] [11,12] [(12,vB (decide ((0:Int)<x2)))] [] [] (aS h (fun c2 h=> ?_) (fun c2 h=> ?_))
   ·obtain⟨x5,hx5,h⟩:=bd h
    exact rk hC [oS hx5] [3,13,14] [(3,vS x5)] [] [] (lE h)
   ·exact qk (lE h)
  ·obtain⟨x7,hx7,x8,hx8,x9,hx9,h⟩:=kX h
   exact rk hC [oR aA hx7,oV (xF G hx8),oS hx9] [3,15,16,17,18,19,20,21] [(3,vS x9)] [] [] (rk hC [] [4,9,10] [(4,vI (wr (x2+1)))] [] [] (lE h))
 ·obtain rfl:=so h
  exact cW (rq hC [] [2,22] [(2,vS x1)] [] [] (qr eR))
theorem mK{a}{r}(h:iM n a=some r):PQ G 328 [V.agg (cF a)] (vS r):=by
 unfold iM at h
 refine pq aO Tryz.func328 rfl fun w X hC=> ?_
 refine rq hC [.z (.b (true))] [1,2] [(1,V.tp (dQ a))] [] [] (qs ?_)
 obtain⟨x1,hx1,x2,hx2,x3,hx3,h⟩:=kX h
 obtain⟨x4,hx4,h⟩:=bd h
 obtain rfl:=so h
 exact dk hC bA [oS hx1,oV (pN G hx2),oS hx3,oS hx4] (fr 2 9) [(2,vS x4)] [] [] (qr eR)
theorem S4(G:GS): ∀(n:Nat) (e:Expr) {r:(List UInt8)} (h:s_l3Text n e=some r),PQ G 329 [V.agg (cU e)] (vS r):=by
 intro n
 induction n with
 |zero=>intro e r h;rw [s_l3Text.eq_def] at h;cases h
 |succ n ih=>
  intro e r h
  rw [s_l3Text.eq_def] at h;dsimp only at h
  refine pq aO Tryz.func329 rfl fun w X hC=> ?_
  refine rq hC [.z (.b (true))] [1,2] [(1,V.tp (fI e))] [] [] (qs (rq hC [] [3,4] [(4,vI e.kind)] [] [] (qb (rq hC [] [5,6] [(5,vB (decide (e.kind=1)))] [] [] (aS h (fun c1 h=> ?_) (fun c1 h=> ?_))))))
  ·obtain⟨x1,hx1,h⟩:=bd h
   obtain rfl:=so h
   exact rq hC [oV (tC G n e.num hx1)] [2,7,8,9] [(2,vS x1)] [] [] (qr eR)
  ·refine rq hC [] [10,11] [(10,vB (decide (e.kind=2)))] [] [] (aS h (fun c2 h=> ?_) (fun c2 h=> ?_))
   ·obtain⟨x2,hx2,x3,hx3,x4,hx4,h⟩:=kX h
    obtain rfl:=so h
    exact rq hC [oV (xF G hx2),oS hx3,oS hx4] [2,12,13,14,15,16] [(2,vS x4)] [] [] (qr eR)
   ·refine rq hC [] [17,18] [(17,vB (decide (e.kind=3)))] [] [] (aS h (fun c3 h=> ?_) (fun c3 h=> ?_))
    ·obtain⟨x5,hx5,h⟩:=bd h
     obtain rfl:=so h
     exact rq hC [oV (mK G hx5)] [2,19,20,21] [(2,vS x5)] [] [] (qr eR)
    ·refine qk (qs ?_)
     obtain⟨x6,hx6,x7,hx7,x8,hx8,h⟩:=kX h
     obtain⟨x9,hx9,x10,hx10,x11,hx11,h⟩:=kX h
     obtain⟨x12,hx12,x13,hx13,x14,hx14,h⟩:=kX h
     obtain rfl:=so h
     exact dk hC bA [.z (.row (eC x6)),oQ (eZ aI hx6 (cQ x6)),oV (ih x6 hx7),oS hx8,oS hx9,oS hx10,.z (.row (eC x11)),oQ (eZ aI hx11 (cQ x11)),oV (ih x11 hx12),oS hx13,oS hx14] [2,22,23,24,25,26,27,28,29,30,31,32,33,34,35,36,37,38,39,40,41,42,43] [(2,vS x14)] [] [] (qr eR)
end Go.Lift
