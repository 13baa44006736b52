/- The walks: the code computes what the plain functions say. -/
import Derived.Test.YtohillieiccgdaaGreatGModels
import Derived.Test.YtohillieiccgdaaGreatGWalks1
set_option maxRecDepth 10000
set_option linter.unusedVariables false
namespace Go.Lift
open Go Go.Proofs
variable (G:GS) {n:Nat}
theorem mF{a}{depth}{r}(h:kQ n a depth=some r):PQ G 231 [V.agg (cM a),vI depth] (vB r):=by
 unfold kQ at h
 refine pq aM Tryz.func231 rfl fun w X hC=> ?_
 refine rq hC [.z (.b (true)),.z (.b (true))] [2,3,4] [(2,V.tp (dE a)),(3,V.tp [T.int .i64 depth])] [] [] (vj h (fun x_=>aZ [(4,vB x_)] [] []) (fun j1 h=> ?_) (fun x5 h=> ?_))
 ·
  obtain⟨x2,hx2,h⟩:=bd h
  refine aQ h (fun c1 h=> ?_) (fun c1 h=> ?_)
  ·exact rk hC ([oV (eO G hx2)]++rF 5 c1++sF 6) (fr 4 17) [(4,vB false)] [] [] (lE h)
  ·obtain⟨x3,hx3,h⟩:=bd h
   refine aQ h (fun c2 h=> ?_) (fun c2 h=> ?_)
   ·exact rk hC ([oV (eO G hx2)]++rT 3 c1++[oN aB a.subs,oT c1,oV (bJ G hx3),oT c1]++rF 6 c2) (fr 4 17) [(4,vB false)] [] [] (lE h)
   ·obtain⟨x4,hx4,h⟩:=bd h
    exact rk hC ([oV (eO G hx2)]++rT 3 c1++[oN aB a.subs,oT c1,oV (bJ G hx3),oT c1]++rT 4 c2++[oV (gQ G n a.subs 276 [T.int .i64 depth] (fun q0=>gY n q0 depth) (fun q0 r h=>M1 G n q0 depth h) hx4),oT c2,oT c2]) (fr 4 17) [(4,vB (!x4))] [] [] (lE h)
 ·obtain rfl:=so h
  exact qr eR
theorem iA{a}{r}(h:kO n a=some r):PQ G 278 [V.agg (bC a)] (vB r):=by
 unfold kO at h
 refine pq aM Tryz.func278 rfl fun w X hC=> ?_
 refine rq hC [.z (.b (true))] [1,2] [(1,V.tp (bK a))] [] [] (vj h (fun x_=>aZ [(2,vB x_)] [] []) (fun j1 h=> ?_) (fun x2 h=> ?_))
 ·
  refine aQ h (fun c1 h=> ?_) (fun c1 h=> ?_)
  ·exact rk hC ([oN rI a.coefs]++rF 4 c1) (fr 2 10) [(2,vB false)] [] [] (lE h)
  ·exact rk hC ([oN rI a.coefs]++rT 4 c1) (fr 2 10) [(2,vB (decide (a.const=0)))] [] [] (lE h)
 ·obtain rfl:=so h
  exact qr eR
theorem mE{a}{r}(h:gK n a=some r):PQ G 279 [V.agg (cM a)] (vB r):=by
 unfold gK at h
 refine pq aM Tryz.func279 rfl fun w X hC=> ?_
 refine rq hC [.z (.b (true))] [1,2] [(1,V.tp (dE a))] [] [] (vj h (fun x_=>aZ [(2,vB x_)] [] []) (fun j1 h=> ?_) (fun x2 h=> ?_))
 ·
  refine aQ h (fun c1 h=> ?_) (fun c1 h=> ?_)
  ·exact rk hC (rF 5 c1) (fr 2 10) [(2,vB false)] [] [] (lE h)
  ·exact rk hC (rT 3 c1++[oN aB a.subs,oT c1,oT c1]) (fr 2 10) [(2,vB (decide ((a.subs.length:Int)=0)))] [] [] (lE h)
 ·obtain rfl:=so h
  exact qr eR
theorem Z6(G:GS): ∀(n:Nat) (e:Expr) (depth:Int) (deep:Int) (count:Int) {r:Bool×Int} (h:i_exprScan n e depth deep count=some r),VQ G 232 [E.cells [vI count]] [V.agg (eC e),vI depth,vI deep,V.ref 0 0] (vB r.1) [E.cells [vI r.2]]:=by
 intro n
 induction n with
 |zero=>intro e depth deep count r h;rw [i_exprScan.eq_def] at h;cases h
 |succ n ih=>
  intro e depth deep count r h
  rw [i_exprScan.eq_def] at h;dsimp only at h
  refine vq aM Tryz.func232 rfl fun w X β0 hC hg=> ?_
  refine rq hC [.z (.b (true))] [4,8] [(4,V.tp (iE e))] [] [] (rq hC [] (fr 9 5) [] [(0,sc [vI (wr (count+1))])] [] (qs (vj h (fun x_=>aZ [(1,vI depth),(2,vI deep),(3,V.ref 0 0),(4,V.tp (iE e)),(21,vB x_)] [(0,E.cells [vI (wr (count+1))])] [0]) (fun j1 h=> ?_) (fun x2 h=> ?_))))
  ·
   refine aQ h (fun c1 h=> ?_) (fun c1 h=> ?_)
   ·exact rk hC (rF 3 c1) (fr 14 8) [(21,vB (decide ((5:Int)<deep)))] [] [] (lE h)
   ·exact rk hC (rT 3 c1) (fr 14 8) [(21,vB true)] [] [] (lE h)
  ·refine aP h (fun c2 h=> ?_) (fun c2 h=> ?_)
   ·obtain rfl:=so h
    exact rq hC [] [8] [(8,vB false)] [] [] (qr eW)
   ·refine qk (qs (vj h (fun x_=>aZ [(1,vI depth),(2,vI deep),(3,V.ref 0 0),(4,V.tp (iE e)),(51,vB x_)] [(0,E.cells [vI (wr (count+1))])] [0]) (fun j3 h=> ?_) (fun x10 h=> ?_)))
    ·
     refine aQ h (fun c3 h=> ?_) (fun c3 h=> ?_)
     ·refine aQ h (fun c4 h=> ?_) (fun c4 h=> ?_)
      ·refine aQ h (fun c5 h=> ?_) (fun c5 h=> ?_)
       ·exact rk hC (rF 4 c3++sF 4++rF 4 c4++[eF,oF c4]++sF 5++rF 4 c5++[eF,oF c5,eF]) (fr 22 30) [(51,vB false)] [] [] (lE h)
       ·obtain⟨x4,hx4,h⟩:=bd h
        exact rk hC (rF 4 c3++sF 4++rF 4 c4++[eF,oF c4]++sF 5++rT 3 c5++[oV (mE G hx4),oT c5,eF,oT c5,eF]) (fr 22 30) [(51,vB (!x4))] [] [] (lE h)
      ·obtain⟨x5,hx5,h⟩:=bd h
       refine aQ h (fun c6 h=> ?_) (fun c6 h=> ?_)
       ·refine aQ h (fun c7 h=> ?_) (fun c7 h=> ?_)
        ·exact rk hC (rF 4 c3++sF 4++rT 3 c4++[oV (iA G hx5),oT c4,eF,oT c4,eF]++rF 4 c6++rF 4 c7++[oF c6,oF c7,oF c6]) (fr 22 30) [(51,vB false)] [] [] (lE h)
        ·obtain⟨x6,hx6,h⟩:=bd h
         exact rk hC (rF 4 c3++sF 4++rT 3 c4++[oV (iA G hx5),oT c4,eF,oT c4,eF]++rF 4 c6++rT 3 c7++[oV (mE G hx6),oT c7,oF c6,oT c7,oF c6]) (fr 22 30) [(51,vB (!x6))] [] [] (lE h)
       ·exact rk hC (rF 4 c3++sF 4++rT 3 c4++[oV (iA G hx5),oT c4,eF,oT c4,eF]++rT 6 c6) (fr 22 30) [(51,vB true)] [] [] (lE h)
     ·refine aQ h (fun c8 h=> ?_) (fun c8 h=> ?_)
      ·refine aQ h (fun c9 h=> ?_) (fun c9 h=> ?_)
       ·refine aQ h (fun c10 h=> ?_) (fun c10 h=> ?_)
        ·exact rk hC (rT 4 c3++rF 4 c8++rF 4 c9++[oF c8,oF c9,oF c8]++sF 4++rF 4 c10++[eF,oF c10,eF]) (fr 22 30) [(51,vB false)] [] [] (lE h)
        ·obtain⟨x7,hx7,h⟩:=bd h
         exact rk hC (rT 4 c3++rF 4 c8++rF 4 c9++[oF c8,oF c9,oF c8]++sF 4++rT 3 c10++[oV (mE G hx7),oT c10,eF,oT c10,eF]) (fr 22 30) [(51,vB (!x7))] [] [] (lE h)
       ·obtain⟨x8,hx8,h⟩:=bd h
        refine aQ h (fun c11 h=> ?_) (fun c11 h=> ?_)
        ·refine aQ h (fun c12 h=> ?_) (fun c12 h=> ?_)
         ·exact rk hC (rT 4 c3++rF 4 c8++rT 3 c9++[oV (iA G hx8),oT c9,oF c8,oT c9,oF c8]++rF 4 c11++rF 4 c12++[oF c11,oF c12,oF c11]) (fr 22 30) [(51,vB false)] [] [] (lE h)
         ·obtain⟨x9,hx9,h⟩:=bd h
          exact rk hC (rT 4 c3++rF 4 c8++rT 3 c9++[oV (iA G hx8),oT c9,oF c8,oT c9,oF c8]++rF 4 c11++rT 3 c12++[oV (mE G hx9),oT c12,oF c11,oT c12,oF c11]) (fr 22 30) [(51,vB (!x9))] [] [] (lE h)
        ·exact rk hC (rT 4 c3++rF 4 c8++rT 3 c9++[oV (iA G hx8),oT c9,oF c8,oT c9,oF c8]++rT 6 c11) (fr 22 30) [(51,vB true)] [] [] (lE h)
      ·exact rk hC (rT 4 c3++rT 6 c8++sT 6) (fr 22 30) [(51,vB true)] [] [] (lE h)
    ·refine aP h (fun c13 h=> ?_) (fun c13 h=> ?_)
     ·obtain rfl:=so h
      exact rq hC [] [8] [(8,vB false)] [] [] (qr eW)
     ·refine qk (qs (qb (rq hC [] (fr 52 4) [(52,vB (decide (e.kind=1)))] [] [] (aP h (fun c14 h=> ?_) (fun c14 h=> ?_)))))
      ·refine vj h (fun x_=>aZ [(8,vB x_)] [(0,E.cells [vI (wr (count+1))])] [0]) (fun j11 h=> ?_) (fun x13 h=> ?_)
       ·
        obtain⟨x12,hx12,h⟩:=bd h
        refine aQ h (fun c15 h=> ?_) (fun c15 h=> ?_)
        ·exact rk hC ([oV (bJ G hx12)]++rF 5 c15) [8,56,57,58,59,60,61,62,63,64] [(8,vB false)] [] [] (lE h)
        ·exact rk hC ([oV (bJ G hx12)]++rT 3 c15++[oN aO e.kids,oT c15,oT c15]) [8,56,57,58,59,60,61,62,63,64] [(8,vB (decide ((e.kids.length:Int)=0)))] [] [] (lE h)
       ·obtain rfl:=so h
        exact qr eW
      ·refine rq hC [] (fr 65 4) [(65,vB (decide (e.kind=2)))] [] [] (aP h (fun c16 h=> ?_) (fun c16 h=> ?_))
       ·refine vj h (fun x_=>aZ [(8,vB x_)] [(0,E.cells [vI (wr (count+1))])] [0]) (fun j14 h=> ?_) (fun x17 h=> ?_)
        ·
         obtain⟨x15,hx15,h⟩:=bd h
         refine aQ h (fun c17 h=> ?_) (fun c17 h=> ?_)
         ·exact rk hC ([oV (dS G hx15)]++rF 6 c17++sF 5) [8,69,70,71,72,73,74,75,76,77,78,79,80,81,82,83,84] [(8,vB false)] [] [] (lE h)
         ·obtain⟨x16,hx16,h⟩:=bd h
          refine aQ h (fun c18 h=> ?_) (fun c18 h=> ?_)
          ·exact rk hC ([oV (dS G hx15)]++rT 3 c17++[oV (iD G hx16)]++rT 3 c17++rF 5 c18) [8,69,70,71,72,73,74,75,76,77,78,79,80,81,82,83,84] [(8,vB false)] [] [] (lE h)
          ·exact rk hC ([oV (dS G hx15)]++rT 3 c17++[oV (iD G hx16)]++rT 3 c17++rT 3 c18++[oN aO e.kids,oT c18,oT c18]) [8,69,70,71,72,73,74,75,76,77,78,79,80,81,82,83,84] [(8,vB (decide ((e.kids.length:Int)=0)))] [] [] (lE h)
        ·obtain rfl:=so h
         exact qr eW
       ·refine rq hC [] (fr 85 4) [(85,vB (decide (e.kind=3)))] [] [] (aP h (fun c19 h=> ?_) (fun c19 h=> ?_))
        ·refine vj h (fun x_=>aZ [(8,vB x_)] [(0,E.cells [vI (wr (count+1))])] [0]) (fun j18 h=> ?_) (fun x20 h=> ?_)
         ·
          obtain⟨x19,hx19,h⟩:=bd h
          refine aQ h (fun c20 h=> ?_) (fun c20 h=> ?_)
          ·exact rk hC ([oV (mF G hx19)]++rF 5 c20) [8,89,90,91,92,93,94,95,96,97,98] [(8,vB false)] [] [] (lE h)
          ·exact rk hC ([oV (mF G hx19)]++rT 3 c20++[oN aO e.kids,oT c20,oT c20]) [8,89,90,91,92,93,94,95,96,97,98] [(8,vB (decide ((e.kids.length:Int)=0)))] [] [] (lE h)
         ·obtain rfl:=so h
          exact qr eW
        ·refine vj h (fun x_=>aZ [(1,vI depth),(2,vI deep),(3,V.ref 0 0),(4,V.tp (iE e)),(99,vB x_)] [(0,E.cells [vI (wr (count+1))])] [0]) (fun j21 h=> ?_) (fun x23 h=> ?_)
         ·
          obtain⟨x22,hx22,h⟩:=bd h
          refine aQ h (fun c21 h=> ?_) (fun c21 h=> ?_)
          ·exact rk hC ([oV (aBy G hx22)]++rF 3 c21++[oN aO e.kids,oF c21,oF c21]) (fr 99 11) [(99,vB (!decide ((e.kids.length:Int)=2)))] [] [] (lE h)
          ·exact rk hC ([oV (aBy G hx22)]++rT 5 c21) (fr 99 11) [(99,vB true)] [] [] (lE h)
         ·refine aP h (fun c22 h=> ?_) (fun c22 h=> ?_)
          ·obtain rfl:=so h
           exact rq hC [] [8] [(8,vB false)] [] [] (qr eW)
          ·refine qk (vj h (fun x_=>aZ [(8,vB x_.2)] [(0,E.cells [vI x_.1])] [0]) (fun j24 h=> ?_) ?_)
           ·
            obtain⟨x25,hx25,x26,hx26,h⟩:=dD h
            refine aQ h (fun c23 h=> ?_) (fun c23 h=> ?_)
            ·exact rk hC ([.z (.row (cR x25)),oQ (cU aO hx25 (b7 x25)),oC [0] [] (ih x25 depth (wr (deep+1)) (wr (count+1)) hx26)]++rF 10 c23) [8,110,111,112,113,114,115,116,117,118,119,120,121,122,123,124,125,126,127,128,129] [(8,vB false)] [(0,sc [vI x26.2])] [(0,true)] (lE h)
            ·obtain⟨x27,hx27,x28,hx28,h⟩:=dD h
             exact rk hC ([.z (.row (cR x25)),oQ (cU aO hx25 (b7 x25)),oC [0] [] (ih x25 depth (wr (deep+1)) (wr (count+1)) hx26)]++rT 3 c23++[.z (.row (cR x27)),oQ (cU aO hx27 (b7 x27))]++rT 6 c23++[oC [0] [] (ih x27 depth (wr (deep+1)) x26.2 hx28),oT c23]) [8,110,111,112,113,114,115,116,117,118,119,120,121,122,123,124,125,126,127,128,129] [(8,vB x28.1)] [(0,sc [vI x28.2])] [(0,true),(0,true)] (lE h)
           ·rintro⟨x29,x30⟩ h
            obtain rfl:=so h
            exact qr eW
theorem O8{s}{depth}{r}(h:lP n s depth=some r):PQ G 163 [V.agg (eU s),vI depth] (vB r):=by
 unfold lP at h
 refine pq aM Tryz.func163 rfl fun w X hC=> ?_
 refine rq hC [.z (.b (true))] [2,4] [(2,V.tp (l5 s))] [] [] (rq hC [.z (.nat 20)] [5] [(5,V.ref 20 0)] [(20,sc [vI 0])] [(20,true)] (vj h (fun x_=>aZ [(4,vB x_.2)] [(20,E.cells [vI x_.1])] [20]) (fun j1 h=> ?_) ?_))
 ·
  obtain⟨x2,hx2,h⟩:=bd h
  refine aQ h (fun c1 h=> ?_) (fun c1 h=> ?_)
  ·exact rk hC ([oV (bJ G hx2)]++rF 5 c1++sF 5) [4,6,7,8,9,10,11,12,13,14,15,16,17,18,19] [(4,vB false)] [] [] (lE h)
  ·obtain⟨x3,hx3,h⟩:=bd h
   refine aQ h (fun c2 h=> ?_) (fun c2 h=> ?_)
   ·exact rk hC ([oV (bJ G hx2)]++rT 4 c1++[oV (mF G hx3),oT c1]++rF 5 c2) [4,6,7,8,9,10,11,12,13,14,15,16,17,18,19] [(4,vB false)] [] [] (lE h)
   ·obtain⟨x4,hx4,h⟩:=bd h
    exact rk hC ([oV (bJ G hx2)]++rT 4 c1++[oV (mF G hx3),oT c1]++rT 4 c2++[oC [20] [] (Z6 G n s.value depth 1 0 hx4),oT c2]) [4,6,7,8,9,10,11,12,13,14,15,16,17,18,19] [(4,vB x4.1)] [(20,sc [vI x4.2])] [(20,true)] (lE h)
 ·rintro⟨x5,x6⟩ h
  obtain rfl:=so h
  exact qr eR
theorem pV(G:GS)(n:Nat)(s:Stmt)(c0__a1:Part){r:Bool}(h:cE n s c0__a1=some r):PQ G 162 [V.agg (eU s),V.tp (rK c0__a1)] (vB r):=by
 unfold cE at h
 refine pq aM Tryz.func162 rfl fun w X hC=> ?_
 refine rq hC [.z (.b (true))] [2,3] [(2,V.tp (l5 s))] [] [] ?_
 obtain⟨x1,hx1,h⟩:=bd h
 obtain rfl:=so h
 exact rq hC [oN aD c0__a1.nest,oV (O8 G hx1)] (fr 3 7) [(3,vB (!x1))] [] [] (qr eR)
theorem O7(G:GS)(n:Nat)(n_a0:Int){r:Bool}(h:jD n n_a0=some r):PQ G 233 [vI n_a0] (vB r):=by
 unfold jD at h
 refine pq aM Tryz.func233 rfl fun w X hC=> ?_
 refine rq hC [] [2] [] [] [] ?_
 obtain⟨x1,hx1,h⟩:=bd h
 obtain rfl:=so h
 exact rq hC [oV (bJ G hx1)] (fr 2 4) [(2,vB (!x1))] [] [] (qr eR)
theorem aBw{point}{r}(h:pI n point=some r):PQ G 164 [vM rI point] (vB r):=by
 unfold pI at h
 refine pq aM Tryz.func164 rfl fun w X hC=> ?_
 refine rq hC [] [2] [] [] [] (vj h (fun x_=>aZ [(2,vB x_)] [] []) (fun j1 h=> ?_) (fun x3 h=> ?_))
 ·
  refine aQ h (fun c1 h=> ?_) (fun c1 h=> ?_)
  ·exact rk hC ([oN rI point]++rF 4 c1) (fr 2 9) [(2,vB false)] [] [] (lE h)
  ·obtain⟨x2,hx2,h⟩:=bd h
   exact rk hC [oN rI point,oT c1,oT c1,oV (dK G n point 233 (fun q0=>jD n q0) (fun q0 r h=>O7 G n q0 h) hx2),oT c1,oT c1] (fr 2 9) [(2,vB (!x2))] [] [] (lE h)
 ·obtain rfl:=so h
  exact qr eR
theorem tD{a}{r}(h:jV n a=some r):PQ G 180 [V.agg [vS a.name,vM rI a.dims]] (vI r):=by
 unfold jV at h
 refine pq aM Tryz.func180 rfl fun w X hC=> ?_
 refine rq hC [.z (.b (true))] [1,2] [(1,V.tp [T.str a.name,T.sl (List.map rI a.dims)])] [] [] (rq hC [] [3] [(3,vI 1)] [] [] (qs (rq hC [oN rI a.dims] (fr 6 4) [(7,vM rI a.dims),(8,vI (a.dims.length:Int)),(9,vI 0)] [] [] (qb (jF h (fun x_=>aZ [(3,vI x_.1),(7,vM rI a.dims),(8,vI (a.dims.length:Int)),(9,vI x_.2)] [] []) lS ?_)))))
 rintro again3 ⟨x1,x2⟩ h
 refine rq hC [] [10] [(10,vB (decide (x2<(a.dims.length:Int))))] [] [] (qs (aP h (fun c1 h=> ?_) (fun c1 h=> ?_)))
 ·refine qk (qs (qb ?_))
  obtain⟨x4,hx4,h⟩:=bd h
  exact rq hC [oR rI hx4] [5,11,12] [(5,vI x4)] [] [] (rk hC [] [3,13,14,15] [(3,vI (wr (x1*x4)))] [] [] (rk hC [] [9,16] [(9,vI (wr (x2+1)))] [] [] (lE h)))
 ·obtain rfl:=so h
  exact cO (rq hC [] [2,17] [(2,vI x1)] [] [] (qr eR))
theorem dC{p}{a}{point}{r}(h:cF n p a point=some r):PQ G 154 [V.agg (bV p),V.agg (cM a),vM rI point] (vI r):=by
 unfold cF at h
 refine pq aM Tryz.func154 rfl fun w X hC=> ?_
 refine rq hC [.z (.b (true)),.z (.b (true))] [3,4,6] [(3,V.tp (bP p)),(4,V.tp (dE a))] [] [] (rq hC [] [7] [(7,vI 0)] [] [] (qs (rq hC [oN aN p.arrays] (fr 14 4) [(15,vM aN p.arrays),(16,vI (p.arrays.length:Int)),(17,vI 0)] [] [] (qb (jF h (fun x_=>aZ [(2,vM rI point),(4,V.tp (dE a)),(7,vI x_.1),(15,vM aN p.arrays),(16,vI (p.arrays.length:Int)),(17,vI x_.2)] [] []) lS ?_)))))
 rintro again3 ⟨x1,x2⟩ h
 refine rq hC [] [18] [(18,vB (decide (x2<(p.arrays.length:Int))))] [] [] (qs (aP h (fun c1 h=> ?_) (fun c1 h=> ?_)))
 ·refine qk (qs (qb ?_))
  obtain⟨x4,hx4,h⟩:=bd h
  refine rq hC [oR aN hx4,.z (.nat 20)] [9,19,20] [(9,V.ref 20 0)] [(20,sc [vS x4.name,vM rI x4.dims])] [(20,true)] (qs (rq hC [] (fr 21 5) [(25,vB (!decide (x4.name=a.array)))] [] [] (aP h (fun c2 h=> ?_) (fun c2 h=> ?_))))
  ·obtain⟨x5,hx5,h⟩:=bd h
   exact rq hC [oV (tD G hx5)] [7,26,27,28,29] [(7,vI (wr (x1+x5)))] [] [] (cO (rk hC [] [17,70] [(17,vI (wr (x2+1)))] [] [] (lE h)))
  ·refine qk (qs (rq hC [oN aB a.subs,oN rI x4.dims] (fr 30 7) [(36,vB (!decide ((a.subs.length:Int)=(x4.dims.length:Int))))] [] [] (aP h (fun c3 h=> ?_) (fun c3 h=> ?_))))
   ·obtain rfl:=so h
    exact rq hC [] [6] [(6,vI (-1))] [] [] (qr eR)
   ·refine qk (rq hC [] [10] [(10,vI 0)] [] [] (qs (rq hC [oN aB a.subs] (fr 37 4) [(38,vM aB a.subs),(39,vI (a.subs.length:Int)),(40,vI 0)] [] [] (qb (jF h (fun x_=>aZ [(2,vM rI point),(7,vI x1),(9,V.ref 20 0),(10,vI x_.1),(38,vM aB a.subs),(39,vI (a.subs.length:Int)),(40,vI x_.2)] [(20,E.cells [vS x4.name,vM rI x4.dims])] [20]) lS ?_)))))
    rintro again8 ⟨x6,x7⟩ h
    refine rq hC [] [41] [(41,vB (decide (x7<(a.subs.length:Int))))] [] [] (qs (aP h (fun c4 h=> ?_) (fun c4 h=> ?_)))
    ·refine qk (qs (qb ?_))
     obtain⟨x9,hx9,h⟩:=bd h
     refine rq hC [oR aB hx9,.z (.nat 21)] [11,12,42,43,44] [(11,vI x7),(12,V.ref 21 0)] [(21,some (E.cells (bC x9)))] [(21,true)] ?_
     obtain⟨x10,hx10,h⟩:=bd h
     refine rq hC [oV (eI G hx10)] [13,45,46,47] [(13,vI x10)] [] [] (qs ?_)
     obtain⟨x11,hx11,x12,hx12,h⟩:=dD h
     refine rq hC [oR rI hx11,oV (bJ G hx12)] (fr 48 9) [(56,vB (!x12))] [] [] (aP h (fun c5 h=> ?_) (fun c5 h=> ?_))
     ·obtain rfl:=so h
      exact rq hC [] [6] [(6,vI (-1))] [] [] (qr eR)
     ·exact qk (rk hC [oR rI hx11] [10,57,58,59,60,61,62,63,64,65] [(10,vI (wr ((wr (x6*x11))+x10)))] [] [] (rk hC [] [40,66] [(40,vI (wr (x7+1)))] [] [] (lE h)))
    ·obtain rfl:=so h
     exact cO (rq hC [] [6,67,68,69] [(6,vI (wr (x1+x6)))] [] [] (qr eR))
 ·obtain rfl:=so h
  exact cO (rq hC [] [6] [(6,vI (-1))] [] [] (qr eR))
theorem tB(G:GS)(n:Nat)(a:Access)(c0__a1:Prog)(c1__a2:List Int){r:Bool}(h:dA n a c0__a1 c1__a2=some r):PQ G 234 [V.agg (cM a),V.tp (bP c0__a1),V.tp [T.sl (List.map rI c1__a2)]] (vB r):=by
 unfold dA at h
 refine pq aM Tryz.func234 rfl fun w X hC=> ?_
 refine rq hC [.z (.b (true))] [3,4] [(3,V.tp (dE a))] [] [] ?_
 obtain⟨x1,hx1,h⟩:=bd h
 obtain rfl:=so h
 exact rq hC [oV (dC G hx1)] (fr 4 6) [(4,vB (decide (x1<0)))] [] [] (qr eR)
theorem y5(G:GS): ∀(n:Nat) (e:Expr) {r:(List Access)} (h:i_reads n e=some r),VQ G 188 [] [V.agg (eC e)] (ms 0 1 2 aR r) [ar 107 1 2 aR r]:=by
 intro n
 induction n with
 |zero=>intro e r h;rw [i_reads.eq_def] at h;cases h
 |succ n ih=>
  intro e r h
  rw [i_reads.eq_def] at h;dsimp only at h
  refine vq aM Tryz.func188 rfl fun w X β0 hC hg=> ?_
  refine rq hC [.z (.b (true))] [1,2] [(1,V.tp (iE e))] [] [] (qs (rq hC [] [6,7,8] [(8,vB (decide (e.kind=3)))] [] [] (aP h (fun c1 h=> ?_) (fun c1 h=> ?_))))
  ·obtain rfl:=so h
   exact rq hC [.z (.int 1),.z (.nat 20)] [2,9,10,11] [(2,ms 20 1 2 aR [e.read])] [(20,some (ar 107 1 2 aR [e.read]))] [(20,true)] (qw (lk hC [.ren 2 20 0] [2] [(2,ms 0 1 2 aR [e.read])] [(0,some (ar 107 1 2 aR [e.read])),(20,none)] [(0,true)]) (qr eW))
  ·refine qk (rq hC [] [3] [(3,V.t T.nilS)] [] [] (qs (rq hC [oN aO e.kids] (fr 12 4) [(13,vM aO e.kids),(14,vI (e.kids.length:Int)),(15,vI 0)] [] [] (qb (qw (lk hC [.grow 3 20 107] [3] [(3,ms 20 1 2 aR [])] [(20,some (ar 107 1 2 aR []))] [(20,true)]) ?_)))))
   refine bD (γ:=Nat) h (fun x_ g_=>aZ [(3,ms 20 g_ 2 aR x_.1),(13,vM aO e.kids),(14,vI (e.kids.length:Int)),(15,vI x_.2)] [(20,ar 107 g_ 2 aR x_.1)] [20]) 1 (lS) ?_
   rintro again4 ⟨x1,x2⟩ g3 h
   refine rq hC [] [16] [(16,vB (decide (x2<(e.kids.length:Int))))] [] [] (qs (aP h (fun c2 h=> ?_) (fun c2 h=> ?_)))
   ·refine qk (qs (qb ?_))
    obtain⟨x5,hx5,h⟩:=bd h
    refine rq hC [.z (.row (cR x5)),.z (.nat 21),oQ (cU aO hx5 (b7 x5))] [5,17,18] [(5,V.ref 21 0)] [(21,some (E.cells (eC x5)))] [(21,true)] ?_
    obtain⟨x6,hx6,x7,hx7,h⟩:=dD h
    exact rk hC [oC [] [22] (ih x5 hx6),.z (.at 2),.z (.fz 22 [21] []),oA (aT aR hx7),oQ (cL (r:=aR) 2 nU x1),oQ (cL (r:=aR) 2 nU x6)] [3,19,20,21,22] [(3,ms 20 (g3+1) 2 aR x7)] [(22,none),(20,some (ar 107 (g3+1) 2 aR x7))] [(22,true)] (rk hC [] [15,23] [(15,vI (wr (x2+1)))] [] [] ⟨(x7,wr (x2+1)),(g3+1),h,lS⟩)
   ·obtain rfl:=so h
    exact cO (rq hC [] [2,24] [(2,ms 20 g3 2 aR x1)] [] [] (qw (lk hC [.ren 2 20 0] [2] [(2,ms 0 1 2 aR x1)] [(0,some (ar 107 1 2 aR x1)),(20,none)] [(0,true)]) (qr eW)))
theorem pS(G:GS)(n:Nat)(s:List Access)(fF:FuncId)(fC0:List T)(fC1:List T)(f:Access→Option Bool)(hf: ∀(q0:Access) r,f q0=some r→PQ G fF [V.agg (cM q0),V.tp fC0,V.tp fC1] (vB r)){r:Int}(h:cZ n s f=some r):PQ G 245 [vM aR s,V.fn fF [V.tp fC0,V.tp fC1]] (vI r):=by
 unfold cZ at h
 refine pq aM Tryz.func245 rfl fun w X hC=> ?_
 refine rq hC [] [4] [] [] [] (qs (rq hC [oN aR s] [6,7,8] [(7,vI (s.length:Int)),(8,vI 0)] [] [] (qb (jF h (fun x_=>aZ [(0,vM aR s),(1,V.fn fF [V.tp fC0,V.tp fC1]),(7,vI (s.length:Int)),(8,vI x_)] [] []) lS ?_))))
 rintro again2 x1 h
 refine rq hC [] [9] [(9,vB (decide (x1<(s.length:Int))))] [] [] (qs (aP h (fun c1 h=> ?_) (fun c1 h=> ?_)))
 ·refine qk (qs (qb (rq hC [] [5,10] [(5,vI x1)] [] [] ?_)))
  obtain⟨x3,hx3,x4,hx4,h⟩:=dD h
  refine rq hC [oR aR hx3,oV (hf x3 _ hx4)] (fr 11 6) [(16,vB x4)] [] [] (aP h (fun c2 h=> ?_) (fun c2 h=> ?_))
  ·obtain rfl:=so h
   exact rq hC [] [4,17] [(4,vI x1)] [] [] (qr eR)
  ·exact qk (rk hC [] [8,18] [(8,vI (wr (x1+1)))] [] [] (lE h))
 ·obtain rfl:=so h
  exact cO (rq hC [] [4] [(4,vI (-1))] [] [] (qr eR))
theorem nP(G:GS)(n:Nat)(s:List Access)(fF:FuncId)(fC0:List T)(fC1:List T)(f:Access→Option Bool)(hf: ∀(q0:Access) r,f q0=some r→PQ G fF [V.agg (cM q0),V.tp fC0,V.tp fC1] (vB r)){r:Bool}(h:bM n s f=some r):PQ G 187 [vM aR s,V.fn fF [V.tp fC0,V.tp fC1]] (vB r):=by
 unfold bM at h
 refine pq aM Tryz.func187 rfl fun w X hC=> ?_
 refine rq hC [] [4] [] [] [] ?_
 obtain⟨x1,hx1,h⟩:=bd h
 obtain rfl:=so h
 exact rq hC [oV (pS G n s fF fC0 fC1 f hf hx1)] (fr 4 5) [(4,vB (decide ((0:Int)≤x1)))] [] [] (qr eR)
theorem vQ{p}{s}{point}{r}(h:fD n p s point=some r):PQ G 165 [V.agg (bV p),V.agg (eU s),vM rI point] (vB r):=by
 unfold fD at h
 refine pq aM Tryz.func165 rfl fun w X hC=> ?_
 refine rq hC [.z (.b (true)),.z (.b (true)),.z (.b (true))] (fr 3 4) [(3,V.tp (bP p)),(4,V.tp (l5 s)),(5,V.tp [T.sl (List.map rI point)])] [] [] (vj h (fun x_=>aZ [(6,vB x_)] [] []) (fun j1 h=> ?_) (fun x5 h=> ?_))
 ·
  obtain⟨x2,hx2,h⟩:=bd h
  refine aQ h (fun c1 h=> ?_) (fun c1 h=> ?_)
  ·exact rk hC ([oV (dC G hx2)]++rF 7 c1) (fr 6 15) [(6,vB false)] [] [] (lE h)
  ·obtain⟨x3,hx3,x4,hx4,h⟩:=dD h
   exact rk hC ([oV (dC G hx2)]++rT 3 c1++[oC [] [20] (y5 G n s.value hx3),oT c1,oT c1,.z (.b (true)),oV (nP G n x3 234 (bP p) [T.sl (List.map rI point)] (fun q0=>dA n q0 p point) (fun q0 r h=>tB G n q0 p point h) hx4),oT c1,oT c1]) (fr 6 15) [(6,vB (!x4))] [(20,some (ar 107 1 2 aR x3))] [(20,true)] (lE h)
 ·obtain rfl:=so h
  exact qr eR
theorem s9(G:GS)(n:Nat)(n_a0:Int){r:Bool}(h:dU n n_a0=some r):PQ G 227 [vI n_a0] (vB r):=by
 unfold dU at h
 refine pq aM Tryz.func227 rfl fun w X hC=> ?_
 refine rq hC [] [2] [] [] [] ?_
 obtain⟨x1,hx1,h⟩:=bd h
 obtain rfl:=so h
 exact rq hC [oV (bJ G hx1)] (fr 2 4) [(2,vB (!x1))] [] [] (qr eR)
theorem xD{list}{r}(h:nJ n list=some r):PQ G 159 [vM aN list] (vB r):=by
 unfold nJ at h
 refine pq aM Tryz.func159 rfl fun w X hC=> ?_
 refine rq hC [] [2] [] [] [] (qs (rq hC [oN aN list] [5,6,7] [(5,vM aN list),(6,vI (list.length:Int)),(7,vI 0)] [] [] (qb (jF h (fun x_=>aZ [(0,vM aN list),(5,vM aN list),(6,vI (list.length:Int)),(7,vI x_)] [] []) lS ?_))))
 rintro again2 x1 h
 refine rq hC [] [8] [(8,vB (decide (x1<(list.length:Int))))] [] [] (qs (aP h (fun c1 h=> ?_) (fun c1 h=> ?_)))
 ·refine qk (qs (qb ?_))
  obtain⟨x3,hx3,h⟩:=bd h
  refine rq hC [oR aN hx3,.z (.nat 20)] [3,4,9,10,11] [(3,vI x1),(4,V.ref 20 0)] [(20,sc [vS x3.name,vM rI x3.dims])] [(20,true)] (vj h (fun x_=>aZ [(0,vM aN list),(5,vM aN list),(6,vI (list.length:Int)),(7,vI x1),(42,vB x_)] [(20,E.cells [vS x3.name,vM rI x3.dims])] [20]) (fun j4 h=> ?_) (fun x11 h=> ?_))
  ·
   obtain⟨x5,hx5,h⟩:=bd h
   refine aQ h (fun c2 h=> ?_) (fun c2 h=> ?_)
   ·refine aQ h (fun c3 h=> ?_) (fun c3 h=> ?_)
    ·obtain⟨x6,hx6,h⟩:=bd h
     refine aQ h (fun c4 h=> ?_) (fun c4 h=> ?_)
     ·obtain⟨x7,hx7,h⟩:=bd h
      exact dk hC bI ([oV (eO G hx5)]++rF 3 c2++rF 9 c3++[oF c2,oF c3,oF c2,eF,eF,eF,oN rI x3.dims,eF,oV (bJ G hx6),eF,eF]++rF 3 c4++[oV (dK G n x3.dims 227 (fun q0=>dU n q0) (fun q0 r h=>s9 G n q0 h) hx7),oF c4]) (fr 12 31) [(42,vB x7)] [] [] (lE h)
     ·exact dk hC bI ([oV (eO G hx5)]++rF 3 c2++rF 9 c3++[oF c2,oF c3,oF c2,eF,eF,eF,oN rI x3.dims,eF,oV (bJ G hx6),eF,eF]++rT 4 c4) (fr 12 31) [(42,vB true)] [] [] (lE h)
    ·obtain⟨x8,hx8,h⟩:=bd h
     refine aQ h (fun c5 h=> ?_) (fun c5 h=> ?_)
     ·obtain⟨x9,hx9,h⟩:=bd h
      refine aQ h (fun c6 h=> ?_) (fun c6 h=> ?_)
      ·obtain⟨x10,hx10,h⟩:=bd h
       exact dk hC bI ([oV (eO G hx5)]++rF 3 c2++rT 4 c3++[oR aN hx8]++rT 5 c3++[oF c2,oT c3,oF c2]++rF 3 c5++[oN rI x3.dims,oF c5,oV (bJ G hx9),oF c5,oF c5]++rF 3 c6++[oV (dK G n x3.dims 227 (fun q0=>dU n q0) (fun q0 r h=>s9 G n q0 h) hx10),oF c6]) (fr 12 31) [(42,vB x10)] [] [] (lE h)
      ·exact dk hC bI ([oV (eO G hx5)]++rF 3 c2++rT 4 c3++[oR aN hx8]++rT 5 c3++[oF c2,oT c3,oF c2]++rF 3 c5++[oN rI x3.dims,oF c5,oV (bJ G hx9),oF c5,oF c5]++rT 4 c6) (fr 12 31) [(42,vB true)] [] [] (lE h)
     ·exact dk hC bI ([oV (eO G hx5)]++rF 3 c2++rT 4 c3++[oR aN hx8]++rT 5 c3++[oF c2,oT c3,oF c2]++rT 6 c5++sT 4) (fr 12 31) [(42,vB true)] [] [] (lE h)
   ·exact dk hC bI ([oV (eO G hx5)]++rT 5 c2++sT 10) (fr 12 31) [(42,vB true)] [] [] (lE h)
  ·refine aP h (fun c7 h=> ?_) (fun c7 h=> ?_)
   ·obtain rfl:=so h
    exact rq hC [] [2] [(2,vB false)] [] [] (qr eR)
   ·exact qk (rk hC [] [7,43] [(7,vI (wr (x1+1)))] [] [] (lE h))
 ·obtain rfl:=so h
  exact cO (rq hC [oN aN list] [2,44,45,46] [(2,vB (decide ((list.length:Int)≤4)))] [] [] (qr eR))
theorem rH(G:GS)(n:Nat)(s:List Stmt)(fF:FuncId)(fC0:List T)(f:Stmt→Option Bool)(hf: ∀(q0:Stmt) r,f q0=some r→PQ G fF [V.agg (eU q0),V.tp fC0] (vB r)){r:Int}(h:gX n s f=some r):PQ G 230 [vM aW s,V.fn fF [V.tp fC0]] (vI r):=by
 unfold gX at h
 refine pq aM Tryz.func230 rfl fun w X hC=> ?_
 refine rq hC [] [4] [] [] [] (qs (rq hC [oN aW s] [6,7,8] [(7,vI (s.length:Int)),(8,vI 0)] [] [] (qb (jF h (fun x_=>aZ [(0,vM aW s),(1,V.fn fF [V.tp fC0]),(7,vI (s.length:Int)),(8,vI x_)] [] []) lS ?_))))
 rintro again2 x1 h
 refine rq hC [] [9] [(9,vB (decide (x1<(s.length:Int))))] [] [] (qs (aP h (fun c1 h=> ?_) (fun c1 h=> ?_)))
 ·refine qk (qs (qb (rq hC [] [5,10] [(5,vI x1)] [] [] ?_)))
  obtain⟨x3,hx3,x4,hx4,h⟩:=dD h
  refine rq hC [oR aW hx3,oV (hf x3 _ hx4)] (fr 11 6) [(16,vB x4)] [] [] (aP h (fun c2 h=> ?_) (fun c2 h=> ?_))
  ·obtain rfl:=so h
   exact rq hC [] [4,17] [(4,vI x1)] [] [] (qr eR)
  ·exact qk (rk hC [] [8,18] [(8,vI (wr (x1+1)))] [] [] (lE h))
 ·obtain rfl:=so h
  exact cO (rq hC [] [4] [(4,vI (-1))] [] [] (qr eR))
theorem oK(G:GS)(n:Nat)(s:List Stmt)(fF:FuncId)(fC0:List T)(f:Stmt→Option Bool)(hf: ∀(q0:Stmt) r,f q0=some r→PQ G fF [V.agg (eU q0),V.tp fC0] (vB r)){r:Bool}(h:dT n s f=some r):PQ G 161 [vM aW s,V.fn fF [V.tp fC0]] (vB r):=by
 unfold dT at h
 refine pq aM Tryz.func161 rfl fun w X hC=> ?_
 refine rq hC [] [4] [] [] [] ?_
 obtain⟨x1,hx1,h⟩:=bd h
 obtain rfl:=so h
 exact rq hC [oV (rH G n s fF fC0 f hf hx1)] (fr 4 5) [(4,vB (decide ((0:Int)≤x1)))] [] [] (qr eR)
theorem eB{p}{r}(h:bT n p=some r):VQ G 67 [] [V.agg (bV p)] (V.tup [ms 0 1 3 aJ r.1,vB r.2]) [ar 38 1 3 aJ r.1]:=by
 unfold bT at h
 refine vq aM Tryz.func67 rfl fun w X β0 hC hg=> ?_
 refine rq hC [.z (.b (true))] [1,2,3] [(1,V.tp (bP p))] [] [] (qs (vj h (fun x_=>aZ [(1,V.tp (bP p)),(22,vB x_)] [] []) (fun j1 h=> ?_) (fun x3 h=> ?_)))
 ·
  obtain⟨x2,hx2,h⟩:=bd h
  refine aQ h (fun c1 h=> ?_) (fun c1 h=> ?_)
  ·exact rk hC ([oV (xD G hx2)]++rF 3 c1++[oN aE p.parts,oF c1,oF c1]) (fr 13 10) [(22,vB (decide ((4:Int)<(p.parts.length:Int))))] [] [] (lE h)
  ·exact rk hC ([oV (xD G hx2)]++rT 5 c1) (fr 13 10) [(22,vB true)] [] [] (lE h)
 ·refine aP h (fun c2 h=> ?_) (fun c2 h=> ?_)
  ·obtain rfl:=so h
   exact rq hC [] [2,3] [(2,V.t T.nilS),(3,vB false)] [] [] (qw (lk hC [.grow 2 0 38] [2] [(2,ms 0 1 3 aJ [])] [(0,some (ar 38 1 3 aJ []))] [(0,true)]) (qr eW))
  ·refine qk (rq hC [] [4] [(4,V.t T.nilS)] [] [] (qs (rq hC [oN aE p.parts] (fr 23 4) [(24,vM aE p.parts),(25,vI (p.parts.length:Int)),(26,vI 0)] [] [] (qb (qw (lk hC [.grow 4 20 38] [4] [(4,ms 20 1 3 aJ [])] [(20,some (ar 38 1 3 aJ []))] [(20,true)]) ?_)))))
   refine bD (γ:=Nat) h (fun x_ g_=>aZ [(1,V.tp (bP p)),(4,ms 20 g_ 3 aJ x_.1),(24,vM aE p.parts),(25,vI (p.parts.length:Int)),(26,vI x_.2)] [(20,ar 38 g_ 3 aJ x_.1)] [20]) 1 (lS) ?_
   rintro again7 ⟨x4,x5⟩ g6 h
   refine rq hC [] [27] [(27,vB (decide (x5<(p.parts.length:Int))))] [] [] (qs (aP h (fun c3 h=> ?_) (fun c3 h=> ?_)))
   ·refine qk (qs (qb ?_))
    obtain⟨x8,hx8,h⟩:=bd h
    refine rq hC [oR aE hx8,.z (.nat 21),.z (.at 0),.z (.fp 21 [6])] [5,6,28,29,30] [(5,vI x5),(6,V.tp (rK x8))] [(21,none)] [(21,true)] ?_
    obtain⟨x9,hx9,h⟩:=bd h
    refine rq hC [oC [] [22] (M4 G hx9)] [7,8,31,32,33,34,35,36] [(7,ms 22 1 1 (rL rI) x9.1),(8,vB x9.2)] [(22,some (ar 27 1 1 (rL rI) x9.1))] [(22,true)] (qs (vj h (fun x_=>aZ [(1,V.tp (bP p)),(4,ms 20 g6 3 aJ x4),(5,vI x5),(6,V.tp (rK x8)),(7,ms 22 1 1 (rL rI) x9.1),(24,vM aE p.parts),(25,vI (p.parts.length:Int)),(26,vI x5),(51,vB x_)] [(20,ar 38 g6 3 aJ x4),(22,ar 27 1 1 (rL rI) x9.1)] [20,21,22]) (fun j10 h=> ?_) (fun x13 h=> ?_)))
    ·
     refine aQ h (fun c4 h=> ?_) (fun c4 h=> ?_)
     ·obtain⟨x11,hx11,h⟩:=bd h
      refine aQ h (fun c5 h=> ?_) (fun c5 h=> ?_)
      ·obtain⟨x12,hx12,h⟩:=bd h
       exact rk hC (rF 3 c4++[oN aW x8.body,oF c4,oV (bJ G hx11),oF c4,oF c4]++rF 4 c5++[oV (oK G n x8.body 162 (rK x8) (fun q0=>cE n q0 x8) (fun q0 r h=>pV G n q0 x8 h) hx12),oF c5]) (fr 37 15) [(51,vB x12)] [] [] (lE h)
      ·exact rk hC (rF 3 c4++[oN aW x8.body,oF c4,oV (bJ G hx11),oF c4,oF c4]++rT 5 c5) (fr 37 15) [(51,vB true)] [] [] (lE h)
     ·exact rk hC (rT 6 c4++sT 5) (fr 37 15) [(51,vB true)] [] [] (lE h)
    ·refine aP h (fun c6 h=> ?_) (fun c6 h=> ?_)
     ·obtain rfl:=so h
      exact rq hC [] [2,3] [(2,V.t T.nilS),(3,vB false)] [] [] (qw (lk hC [.grow 2 0 38] [2] [(2,ms 0 1 3 aJ [])] [(0,some (ar 38 1 3 aJ []))] [(0,true)]) (qr eW))
     ·refine qk (rq hC [oN (rL rI) x9.1] [52,53,54] [(52,ms 22 1 1 (rL rI) x9.1),(53,vI (x9.1.length:Int)),(54,vI 0)] [] [] (qb (bD (γ:=Nat) h (fun x_ g_=>aZ [(1,V.tp (bP p)),(4,ms 20 g_ 3 aJ x_.1),(5,vI x5),(6,V.tp (rK x8)),(24,vM aE p.parts),(25,vI (p.parts.length:Int)),(26,vI x5),(52,ms 22 1 1 (rL rI) x9.1),(53,vI (x9.1.length:Int)),(54,vI x_.2)] [(20,ar 38 g_ 3 aJ x_.1),(22,ar 27 1 1 (rL rI) x9.1)] [20,21,22]) g6 (lS) ?_)))
      rintro again17 ⟨x14,x15⟩ g16 h
      refine rq hC [] [55] [(55,vB (decide (x15<(x9.1.length:Int))))] [] [] (qs (aP h (fun c7 h=> ?_) (fun c7 h=> ?_)))
      ·refine qk (qs (qb ?_))
       obtain⟨x18,hx18,h⟩:=bd h
       refine rq hC [oQ (fJ (rL rI) hx18),oX (rL rI) hx18] [10,56,57] [(10,vM rI x18)] [] [] (qs ?_)
       obtain⟨x19,hx19,h⟩:=bd h
       refine rq hC [oV (aBw G hx19)] [58,59,60] [(60,vB (!x19))] [] [] (aP h (fun c8 h=> ?_) (fun c8 h=> ?_))
       ·obtain rfl:=so h
        exact rq hC [] [2,3] [(2,V.t T.nilS),(3,vB false)] [] [] (qw (lk hC [.grow 2 0 38] [2] [(2,ms 0 1 3 aJ [])] [(0,some (ar 38 1 3 aJ []))] [(0,true)]) (qr eW))
       ·refine qk (rq hC [oN aW x8.body] (fr 61 4) [(62,vM aW x8.body),(63,vI (x8.body.length:Int)),(64,vI 0)] [] [] (qb (bD (γ:=Nat) h (fun x_ g_=>aZ [(1,V.tp (bP p)),(4,ms 20 g_ 3 aJ x_.1),(5,vI x5),(6,V.tp (rK x8)),(10,vM rI x18),(24,vM aE p.parts),(25,vI (p.parts.length:Int)),(26,vI x5),(52,ms 22 1 1 (rL rI) x9.1),(53,vI (x9.1.length:Int)),(54,vI x15),(62,vM aW x8.body),(63,vI (x8.body.length:Int)),(64,vI x_.2)] [(20,ar 38 g_ 3 aJ x_.1),(22,ar 27 1 1 (rL rI) x9.1)] [20,21,22]) g16 (lS) ?_)))
        rintro again23 ⟨x20,x21⟩ g22 h
        refine rq hC [] [65] [(65,vB (decide (x21<(x8.body.length:Int))))] [] [] (qs (aP h (fun c9 h=> ?_) (fun c9 h=> ?_)))
        ·refine qk (qs (qb ?_))
         obtain⟨x24,hx24,h⟩:=bd h
         refine rq hC [oR aW hx24,.z (.nat 23)] [11,12,66,67,68] [(11,vI x21),(12,V.ref 23 0)] [(23,some (E.cells (eU x24)))] [(23,true)] (qs ?_)
         obtain⟨x25,hx25,h⟩:=bd h
         refine rq hC [oV (vQ G hx25)] (fr 69 5) [(73,vB (!x25))] [] [] (aP h (fun c10 h=> ?_) (fun c10 h=> ?_))
         ·obtain rfl:=so h
          exact rq hC [] [2,3] [(2,V.t T.nilS),(3,vB false)] [] [] (qw (lk hC [.grow 2 0 38] [2] [(2,ms 0 1 3 aJ [])] [(0,some (ar 38 1 3 aJ []))] [(0,true)]) (qr eW))
         ·refine qk ?_
          obtain⟨x26,hx26,x27,hx27,h⟩:=dD h
          exact rk hC [oC [] [24] (G.clone x18 hx26),.z (.at 4),.z (.fz 24 [78] []),.z (.int 0),oA (aT aJ hx27),oQ (cL (r:=aJ) 3 tQ x20),oQ (cL (r:=aJ) 3 tQ [(⟨x5,x21,x26⟩:Inst)])] [4,74,75,76,77,78,79,80,81] [(4,ms 20 (g22+1) 3 aJ x27)] [(24,none),(20,some (ar 38 (g22+1) 3 aJ x27))] [(24,true)] (rk hC [] [64,82] [(64,vI (wr (x21+1)))] [] [] ⟨(x27,wr (x21+1)),(g22+1),h,lS⟩)
        ·exact cO (rk hC [] [54,83] [(54,vI (wr (x15+1)))] [] [] ⟨(x20,wr (x15+1)),g22,h,lS⟩)
      ·exact cO (rk hC [] [26,84] [(26,vI (wr (x5+1)))] [] [] ⟨(x14,wr (x5+1)),g16,h,lS⟩)
   ·obtain rfl:=so h
    exact cO (rq hC [oN aJ x4] [2,3,85,86,87,88] [(2,ms 20 g6 3 aJ x4),(3,vB (decide ((x4.length:Int)≤120)))] [] [] (qw (lk hC [.ren 2 20 0] [2] [(2,ms 0 1 3 aJ x4)] [(0,some (ar 38 1 3 aJ x4)),(20,none)] [(0,true)]) (qr eW)))
theorem iB{p}{x}{r}(h:b8 n p x=some r):PQ G 98 [V.agg (bV p),V.agg (aBz x)] (V.agg (eU r)):=by
 unfold b8 at h
 refine pq aM Tryz.func98 rfl fun w X hC=> ?_
 refine rq hC [.z (.b (true)),.z (.b (true)),.z (.nat 20)] [2,3,4] [(2,V.tp (bP p)),(3,V.tp (aDj x)),(4,V.ref 20 0)] [(20,sc [vS [],V.t T.nilS,vI 0,vI 0,V.t T.nilS,vI 0,vS [],V.t T.nilS,V.t T.nilS])] [(20,true)] (qs ?_)
 obtain⟨x1,hx1,x2,hx2,h⟩:=dD h
 obtain rfl:=so h
 exact dk hC bI [oR aE hx1,oR aW hx2] (fr 5 11) [] [(20,some (E.cells (eU x2)))] [] (qr eR)
theorem t7{p}{x}{r}(h:eM n p x=some r):VQ G 149 [] [V.agg (bV p),V.agg (aBz x)] (V.tup [ms 0 1 1 rI r.1,vI r.2]) [ar 3 1 1 rI r.1]:=by
 unfold eM at h
 refine vq aM Tryz.func149 rfl fun w X β0 hC hg=> ?_
 refine rq hC [.z (.b (true)),.z (.b (true))] (fr 2 4) [(2,V.tp (bP p)),(3,V.tp (aDj x))] [] [] ?_
 obtain⟨x1,hx1,h⟩:=bd h
 refine rq hC [oV (iB G hx1),.z (.nat 20)] [6,10,11,12] [(6,V.ref 20 0)] [(20,some (E.cells (eU x1)))] [(20,true)] (rq hC [] [7] [(7,V.t T.nilS)] [] [] (qs ?_))
 obtain⟨x2,hx2,h⟩:=bd h
 refine rq hC [oC [] [21] (y5 G n x1.value hx2),oN aR x2] (fr 13 5) [(15,ms 21 1 2 aR x2),(16,vI (x2.length:Int)),(17,vI 0)] [(21,some (ar 107 1 2 aR x2))] [(21,true)] (qb (qw (lk hC [.grow 7 22 3] [7] [(7,ms 22 1 1 rI [])] [(22,some (ar 3 1 1 rI []))] [(22,true)]) (bD (γ:=Nat) h (fun x_ g_=>aZ [(2,V.tp (bP p)),(3,V.tp (aDj x)),(6,V.ref 20 0),(7,ms 22 g_ 1 rI x_.1),(15,ms 21 1 2 aR x2),(16,vI (x2.length:Int)),(17,vI x_.2)] [(20,E.cells (eU x1)),(21,ar 107 1 2 aR x2),(22,ar 3 g_ 1 rI x_.1)] [20,21,22]) 1 (lS) ?_)))
 rintro again6 ⟨x3,x4⟩ g5 h
 refine rq hC [] [18] [(18,vB (decide (x4<(x2.length:Int))))] [] [] (qs (aP h (fun c1 h=> ?_) (fun c1 h=> ?_)))
 ·refine qk (qs (qb ?_))
  obtain⟨x7,hx7,h⟩:=bd h
  refine rq hC [oQ (fJ aR hx7),oX aR hx7,.z (.nat 23)] [9,19,20] [(9,V.ref 23 0)] [(23,some (E.cells (cM x7)))] [(23,true)] ?_
  obtain⟨x8,hx8,x9,hx9,h⟩:=dD h
  exact rk hC [oV (dC G hx8),.z (.int 0),oA (aT rI hx9),oQ (cL (r:=rI) 1 (fun _=>rfl) x3),oQ (cL (r:=rI) 1 (fun _=>rfl) [x8])] [7,21,22,23,24,25,26,27,28] [(7,ms 22 (g5+1) 1 rI x9)] [(22,some (ar 3 (g5+1) 1 rI x9))] [] (rk hC [] [17,29] [(17,vI (wr (x4+1)))] [] [] ⟨(x9,wr (x4+1)),(g5+1),h,lS⟩)
 ·refine cO ?_
  obtain⟨x10,hx10,h⟩:=bd h
  obtain rfl:=so h
  exact rq hC [oV (dC G hx10)] [4,5,30,31,32,33,34,35,36] [(4,ms 22 g5 1 rI x3),(5,vI x10)] [] [] (qw (lk hC [.ren 4 22 0] [4] [(4,ms 0 1 1 rI x3)] [(0,some (ar 3 1 1 rI x3)),(22,none)] [(0,true)]) (qr eW))
theorem T8{p}{r}(h:wQ n p=some r):PQ G 59 [V.agg (bV p)] (V.tup [vP aHp r.1,vB r.2]):=by
 unfold wQ at h
 refine pmr aM Tryz.func59 rfl rfl rfl rfl rfl (aJ3 _ _ _) rfl ?_
 intro w X hC
 refine rq hC [.z (.b (true))] [1,2,3] [(1,V.tp (bP p))] [] [] ?_
 obtain⟨x1,hx1,h⟩:=bd h
 refine rq hC [oC [] [20] (eB G hx1)] [4,5,11,12,13,14,15] [(4,ms 20 1 3 aJ x1.1),(5,vB x1.2)] [(20,some (ar 38 1 3 aJ x1.1))] [(20,true)] (qs (rq hC [] [16,17] [(17,vB (!x1.2))] [] [] (aP h (fun c1 h=> ?_) (fun c1 h=> ?_))))
 ·obtain rfl:=so h
  exact rq hC [] [2,3] [(2,V.t T.nilP),(3,vB false)] [] [] (qr eR)
 ·refine qk (rq hC [.z (.nat 21)] [6,18,19,20,21] [(6,V.ref 21 0)] [(21,sc [vM aN p.arrays,vM aE p.parts,ms 20 1 3 aJ x1.1,V.t T.nilS,V.t T.nilS])] [(21,true)] (qs (rq hC [oN aJ x1.1] [22,23,24] [(22,ms 20 1 3 aJ x1.1),(23,vI (x1.1.length:Int)),(24,vI 0)] [] [] (qb (qw (lk hC [.growc 21 3 22 27] [] [] [(22,some (ar 27 1 1 (rL rI) [])),(21,sc [vM aN p.arrays,vM aE p.parts,ms 20 1 3 aJ x1.1,ms 22 1 1 (rL rI) [],V.t T.nilS])] [(22,true)]) ?_)))))
  refine qw (lk hC [.growc 21 4 23 3] [] [] [(23,some (ar 3 1 1 rI [])),(21,sc [vM aN p.arrays,vM aE p.parts,ms 20 1 3 aJ x1.1,ms 22 1 1 (rL rI) [],ms 23 1 1 rI []])] [(23,true)]) (bD (γ:=Nat×Nat) h (fun x_ g_=>aZ [(1,V.tp (bP p)),(6,V.ref 21 0),(22,ms 20 1 3 aJ x1.1),(23,vI (x1.1.length:Int)),(24,vI x_.2.2)] [(20,ar 38 1 3 aJ x1.1),(21,E.cells [vM aN p.arrays,vM aE p.parts,ms 20 1 3 aJ x1.1,ms 22 g_.1 1 (rL rI) x_.1,ms 23 g_.2 1 rI x_.2.1]),(22,ar 27 g_.1 1 (rL rI) x_.1),(23,ar 3 g_.2 1 rI x_.2.1)] [20,21,22,23]) (1,1) (lS) ?_)
  rintro again7 ⟨x2,x3,x4⟩ ⟨g5,g6⟩ h
  refine rq hC [] [25] [(25,vB (decide (x4<(x1.1.length:Int))))] [] [] (qs (aP h (fun c2 h=> ?_) (fun c2 h=> ?_)))
  ·refine qk (qs (qb ?_))
   obtain⟨x8,hx8,h⟩:=bd h
   refine rq hC [oQ (fJ aJ hx8),oX aJ hx8,.z (.nat 24)] [8,26,27] [(8,V.ref 24 0)] [(24,some (E.cells (aBz x8)))] [(24,true)] ?_
   obtain⟨x9,hx9,h⟩:=bd h
   refine rq hC [oC [] [25] (t7 G hx9)] [9,10,28,29,30,31,32,33] [(9,ms 25 1 1 rI x9.1),(10,vI x9.2)] [(25,some (ar 3 1 1 rI x9.1))] [(25,true)] ?_
   obtain⟨x10,hx10,x11,hx11,h⟩:=dD h
   exact dk hC bI [.z (.at 15),.z (.fz 25 [9,40] []),.z (.int 0),oA (aT (rL rI) hx10),.z (.int 0),oQ (cL (r:=(rL rI)) 1 (fun _=>rfl) x2),oQ (cL (r:=(rL rI)) 1 (fun _=>rfl) [x9.1]),oA (aT rI hx11),oQ (cL (r:=rI) 1 (fun _=>rfl) x3),oQ (cL (r:=rI) 1 (fun _=>rfl) [x9.2])] [9,34,35,36,37,38,39,40,41,42,43,44,45,46,47,48,49,50,51,52,53] [] [(25,none),(22,some (ar 27 (g5+1) 1 (rL rI) x10)),(23,some (ar 3 (g6+1) 1 rI x11)),(21,sc [vM aN p.arrays,vM aE p.parts,ms 20 1 3 aJ x1.1,ms 22 (g5+1) 1 (rL rI) x10,ms 23 (g6+1) 1 rI x11])] [] (rk hC [] [24,54] [(24,vI (wr (x4+1)))] [] [] ⟨(x10,x11,wr (x4+1)),((g5+1),(g6+1)),h,lS⟩)
  ·obtain rfl:=so h
   exact cO (rq hC [] [2,3,55] [(2,V.ref 21 0),(3,vB true)] [] [] (qw (lk hC [.fz 20 [22] [21],.fz 22 [] [21],.fz 23 [] [21],.fp 21 [2,6]] [2,6,22] [(2,V.tp [T.sl (List.map aN p.arrays),T.sl (List.map aE p.parts),T.sl (List.map aJ x1.1),T.sl (List.map (rL rI) x2),T.sl (List.map rI x3)]),(6,V.tp [T.sl (List.map aN p.arrays),T.sl (List.map aE p.parts),T.sl (List.map aJ x1.1),T.sl (List.map (rL rI) x2),T.sl (List.map rI x3)]),(22,vM aJ x1.1)] [(21,none),(20,none),(22,none),(23,none)] []) (qr eR)))
theorem O5{s}{v}{r}(h:nW n s v=some r):PQ G 194 [vM rI s,vI v] (vI r):=by
 unfold nW at h
 refine pq aM Tryz.func194 rfl fun w X hC=> ?_
 refine rq hC [] [4] [] [] [] (qs (rq hC [oN rI s] [6,7,8] [(7,vI (s.length:Int)),(8,vI 0)] [] [] (qb (jF h (fun x_=>aZ [(0,vM rI s),(1,vI v),(7,vI (s.length:Int)),(8,vI x_)] [] []) lS ?_))))
 rintro again2 x1 h
 refine rq hC [] [9] [(9,vB (decide (x1<(s.length:Int))))] [] [] (qs (aP h (fun c1 h=> ?_) (fun c1 h=> ?_)))
 ·refine qk (qs (qb (rq hC [] [5,10] [(5,vI x1)] [] [] ?_)))
  obtain⟨x3,hx3,h⟩:=bd h
  refine rq hC [oR rI hx3] (fr 11 6) [(16,vB (decide (v=x3)))] [] [] (aP h (fun c2 h=> ?_) (fun c2 h=> ?_))
  ·obtain rfl:=so h
   exact rq hC [] [4,17] [(4,vI x1)] [] [] (qr eR)
  ·exact qk (rk hC [] [8,18] [(8,vI (wr (x1+1)))] [] [] (lE h))
 ·obtain rfl:=so h
  exact cO (rq hC [] [4] [(4,vI (-1))] [] [] (qr eR))
theorem pU{s}{v}{r}(h:fB n s v=some r):PQ G 150 [vM rI s,vI v] (vB r):=by
 unfold fB at h
 refine pq aM Tryz.func150 rfl fun w X hC=> ?_
 refine rq hC [] [4] [] [] [] ?_
 obtain⟨x1,hx1,h⟩:=bd h
 obtain rfl:=so h
 exact rq hC [oV (O5 G hx1)] (fr 4 5) [(4,vB (decide ((0:Int)≤x1)))] [] [] (qr eR)
theorem lX{p}{r}(h:dB n p=some r):VQ G 19 [] [V.agg (bV p)] (ms 0 1 3 aJ r) [ar 38 1 3 aJ r]:=by
 unfold dB at h
 refine vq aM Tryz.func19 rfl fun w X β0 hC hg=> ?_
 refine rq hC [.z (.b (true))] [1,2] [(1,V.tp (bP p))] [] [] ?_
 obtain⟨x1,hx1,h⟩:=bd h
 refine rq hC [oC [] [20] (eB G hx1)] (fr 3 7) [(3,ms 20 1 3 aJ x1.1),(4,vB x1.2)] [(20,some (ar 38 1 3 aJ x1.1))] [(20,true)] (qs (rq hC [] [10,11] [(11,vB (!x1.2))] [] [] (aP h (fun c1 h=> ?_) (fun c1 h=> ?_))))
 ·obtain rfl:=so h
  exact rq hC [] [2] [(2,V.t T.nilS)] [] [] (qw (lk hC [.grow 2 0 38] [2] [(2,ms 0 1 3 aJ [])] [(0,some (ar 38 1 3 aJ []))] [(0,true)]) (qr eW))
 ·obtain rfl:=so h
  exact qk (rq hC [] [2,12] [(2,ms 20 1 3 aJ x1.1)] [] [] (qw (lk hC [.ren 2 20 0] [2] [(2,ms 0 1 3 aJ x1.1)] [(0,some (ar 38 1 3 aJ x1.1)),(20,none)] [(0,true)]) (qr eW)))
theorem xF(G:GS)(n:Nat)(n_a0:Int){r:Bool}(h:eG n n_a0=some r):PQ G 152 [vI n_a0] (vB r):=by
 unfold eG at h
 refine pq aM Tryz.func152 rfl fun w X hC=> ?_
 refine rq hC [] [2] [] [] [] ?_
 obtain⟨x1,hx1,h⟩:=bd h
 obtain rfl:=so h
 exact rq hC [oV (bJ G hx1)] (fr 2 4) [(2,vB (!x1))] [] [] (qr eR)
theorem iC{p}{r}(h:fE n p=some r):PQ G 28 [V.agg (bV p)] (vB r):=by
 unfold fE at h
 refine pq aM Tryz.func28 rfl fun w X hC=> ?_
 refine rq hC [.z (.b (true))] [1,2] [(1,V.tp (bP p))] [] [] ?_
 obtain⟨x1,hx1,h⟩:=bd h
 obtain rfl:=so h
 exact rq hC [oC [] [20] (eB G hx1)] (fr 3 7) [(4,vB x1.2)] [(20,some (ar 38 1 3 aJ x1.1))] [(20,true)] (rq hC [] [2,10] [(2,vB x1.2)] [] [] (qr eR))
theorem jZ{p}{r}(h:dQ n p=some r):PQ G 85 [V.agg (bV p)] (vI r):=by
 unfold dQ at h
 refine pq aM Tryz.func85 rfl fun w X hC=> ?_
 refine rq hC [.z (.b (true))] [1,2] [(1,V.tp (bP p))] [] [] (rq hC [] [3] [(3,vI 0)] [] [] (qs (rq hC [oN aN p.arrays] (fr 6 4) [(7,vM aN p.arrays),(8,vI (p.arrays.length:Int)),(9,vI 0)] [] [] (qb (jF h (fun x_=>aZ [(3,vI x_.1),(7,vM aN p.arrays),(8,vI (p.arrays.length:Int)),(9,vI x_.2)] [] []) lS ?_)))))
 rintro again3 ⟨x1,x2⟩ h
 refine rq hC [] [10] [(10,vB (decide (x2<(p.arrays.length:Int))))] [] [] (qs (aP h (fun c1 h=> ?_) (fun c1 h=> ?_)))
 ·refine qk (qs (qb ?_))
  obtain⟨x4,hx4,h⟩:=bd h
  refine rq hC [oR aN hx4,.z (.nat 20)] [5,11,12] [(5,V.ref 20 0)] [(20,sc [vS x4.name,vM rI x4.dims])] [(20,true)] ?_
  obtain⟨x5,hx5,h⟩:=bd h
  exact rk hC [oV (tD G hx5)] [3,13,14,15,16] [(3,vI (wr (x1+x5)))] [] [] (rk hC [] [9,17] [(9,vI (wr (x2+1)))] [] [] (lE h))
 ·obtain rfl:=so h
  exact cO (rq hC [] [2,18] [(2,vI x1)] [] [] (qr eR))
theorem l4{p}{m}{r}(h:fV n p m=some r):PQ G 61 [V.agg (bV p),vM rI m] (vB r):=by
 unfold fV at h
 refine pq aM Tryz.func61 rfl fun w X hC=> ?_
 refine rq hC [.z (.b (true))] [2,4] [(2,V.tp (bP p))] [] [] (vj h (fun x_=>aZ [(4,vB x_)] [] []) (fun j1 h=> ?_) (fun x5 h=> ?_))
 ·
  obtain⟨x2,hx2,h⟩:=bd h
  refine aQ h (fun c1 h=> ?_) (fun c1 h=> ?_)
  ·exact rk hC ([oV (iC G hx2)]++rF 6 c1++sF 4) (fr 4 15) [(4,vB false)] [] [] (lE h)
  ·obtain⟨x3,hx3,h⟩:=bd h
   refine aQ h (fun c2 h=> ?_) (fun c2 h=> ?_)
   ·exact rk hC ([oV (iC G hx2),oT c1,oT c1,oN rI m,oT c1,oT c1,oV (jZ G hx3),oT c1,oT c1]++rF 4 c2) (fr 4 15) [(4,vB false)] [] [] (lE h)
   ·obtain⟨x4,hx4,h⟩:=bd h
    exact rk hC [oV (iC G hx2),oT c1,oT c1,oN rI m,oT c1,oT c1,oV (jZ G hx3),oT c1,oT c1,oT c2,oT c2,oV (dK G n m 152 (fun q0=>eG n q0) (fun q0 r h=>xF G n q0 h) hx4),oT c2,oT c2] (fr 4 15) [(4,vB (!x4))] [] [] (lE h)
 ·obtain rfl:=so h
  exact qr eR
theorem qW{n_a0}{r}(h:lO n n_a0=some r):PQ G 221 [vI n_a0] (vI r):=by
 unfold lO at h
 refine pq aM Tryz.func221 rfl fun w X hC=> ?_
 obtain rfl:=so h
 exact rq hC [] [2] [] [] [] (rq hC [oQ (show(1000:Int)≠0 by decide),oQ (show(1000:Int)≠0 by decide)] (fr 2 6) [(2,vI (Int.tmod (wr ((wr ((Int.tmod n_a0 1000)+999))+1)) 1000))] [] [] (qr eR))
theorem xE(G:GS): ∀(n:Nat) (p:Prog) (m:List Int) (e:Expr) (point:List Int) {r:Int} (h:i_Program_value n p m e point=some r),PQ G 153 [V.agg (bV p),vM rI m,V.agg (eC e),vM rI point] (vI r):=by
 intro n
 induction n with
 |zero=>intro p m e point r h;rw [i_Program_value.eq_def] at h;cases h
 |succ n ih=>
  intro p m e point r h
  rw [i_Program_value.eq_def] at h;dsimp only at h
  refine pq aM Tryz.func153 rfl fun w X hC=> ?_
  refine rq hC [.z (.b (true)),.z (.b (true))] [4,6,8] [(4,V.tp (bP p)),(6,V.tp (iE e))] [] [] (qs (rq hC [] [11,12] [(12,vI e.kind)] [] [] (qb (rq hC [] [13,14] [(13,vB (decide (e.kind=1)))] [] [] (aP h (fun c1 h=> ?_) (fun c1 h=> ?_))))))
  ·obtain rfl:=so h
   exact rq hC [] [8,15,16] [(8,vI e.num)] [] [] (qr eR)
  ·refine rq hC [] [17,18] [(17,vB (decide (e.kind=2)))] [] [] (aP h (fun c2 h=> ?_) (fun c2 h=> ?_))
   ·obtain⟨x1,hx1,x2,hx2,h⟩:=dD h
    obtain rfl:=so h
    exact rq hC [oV (eI G hx1),oV (qW G hx2)] [8,19,20,21,22,23] [(8,vI x2)] [] [] (qr eR)
   ·refine rq hC [] [24,25] [(24,vB (decide (e.kind=3)))] [] [] (aP h (fun c3 h=> ?_) (fun c3 h=> ?_))
    ·obtain⟨x3,hx3,x4,hx4,h⟩:=dD h
     obtain rfl:=so h
     exact rq hC [oV (dC G hx3),oR rI hx4] [8,26,27,28,29,30,31,32,33] [(8,vI x4)] [] [] (qr eR)
    ·refine qk (qs ?_)
     obtain⟨x5,hx5,x6,hx6,x7,hx7,h⟩:=iZ h
     obtain⟨x8,hx8,h⟩:=bd h
     refine dk hC bI [.z (.row (cR x5)),oQ (cU aO hx5 (b7 x5)),oV (ih p m x5 point hx6),.z (.row (cR x7)),oQ (cU aO hx7 (b7 x7)),oV (ih p m x7 point hx8)] [9,10,34,35,36,37,38,39,40,41,42,43,44,45,46,47,48,49] [(9,vI x6),(10,vI x8)] [] [] (qs (rq hC [] [50,51] [(51,vI e.kind)] [] [] (qb (rq hC [] [52,53] [(52,vB (decide (e.kind=4)))] [] [] (aP h (fun c4 h=> ?_) (fun c4 h=> ?_))))))
     ·obtain⟨x9,hx9,h⟩:=bd h
      obtain rfl:=so h
      exact rq hC [oV (qW G hx9)] [8,54,55,56,57] [(8,vI x9)] [] [] (qr eR)
     ·refine rq hC [] [58,59] [(58,vB (decide (e.kind=5)))] [] [] (aP h (fun c5 h=> ?_) (fun c5 h=> ?_))
      ·obtain⟨x10,hx10,h⟩:=bd h
       obtain rfl:=so h
       exact rq hC [oV (qW G hx10)] [8,60,61,62,63] [(8,vI x10)] [] [] (qr eR)
      ·refine qk ?_
       obtain⟨x11,hx11,h⟩:=bd h
       obtain rfl:=so h
       exact rq hC [oV (qW G hx11)] [8,64,65,66,67] [(8,vI x11)] [] [] (qr eR)
theorem tC{p}{m}(mG:Nat){x}{r}(h:hJ n p m x=some r):VQ G 63 [ar 3 mG 1 rI m] [V.agg (bV p),ms 0 mG 1 rI m,V.agg (aBz x)] (V.tup []) [ar 3 mG 1 rI r]:=by
 unfold hJ at h
 refine vq aM Tryz.func63 rfl fun w X β0 hC hg=> ?_
 refine rq hC [.z (.b (true)),.z (.b (true))] [3,5] [(3,V.tp (bP p)),(5,V.tp (aDj x))] [] [] ?_
 obtain⟨x1,hx1,h⟩:=bd h
 refine rq hC [oV (iB G hx1),.z (.nat 20)] (fr 6 4) [(6,V.ref 20 0)] [(20,some (E.cells (eU x1)))] [(20,true)] ?_
 obtain⟨x2,hx2,x3,hx3,x4,hx4,h⟩:=iZ h
 obtain⟨x5,hx5,h⟩:=bd h
 obtain rfl:=so h
 exact dk hC bI [oV (dC G hx2),.z (.b (true)),oV (xE G n p m x1.value x.point hx3),oQ (fJ rI hx4),oX rI hx4,.z (.rows (List.map rI x5)),oQ (str rI hx5)] [1,10,11,12,13,14,15,16,17,18,19,20,21,22,23,24] [] [(0,some (ar 3 mG 1 rI x5))] [] eW
theorem M3{p}{m}{r}(h:hF n p m=some r):VQ G 16 [] [V.agg (bV p),vM rI m] (V.tup [ms 0 1 1 rI r.1,vB r.2]) [ar 3 1 1 rI r.1]:=by
 unfold hF at h
 refine vq aM Tryz.func16 rfl fun w X β0 hC hg=> ?_
 refine rq hC [.z (.b (true))] [2,4,5] [(2,V.tp (bP p))] [] [] (qs ?_)
 obtain⟨x1,hx1,h⟩:=bd h
 refine rq hC [oV (l4 G hx1)] (fr 9 4) [(12,vB (!x1))] [] [] (aP h (fun c1 h=> ?_) (fun c1 h=> ?_))
 ·obtain rfl:=so h
  exact rq hC [] [4,5] [(4,V.t T.nilS),(5,vB false)] [] [] (qw (lk hC [.grow 4 0 3] [4] [(4,ms 0 1 1 rI [])] [(0,some (ar 3 1 1 rI []))] [(0,true)]) (qr eW))
 ·refine qk ?_
  obtain⟨x2,hx2,h⟩:=bd h
  refine rq hC [oC [] [20] (G.clone m hx2)] [6,13,14] [(6,ms 20 1 1 rI x2)] [(20,some (ar 3 1 1 rI x2))] [(20,true)] (qs ?_)
  obtain⟨x3,hx3,h⟩:=bd h
  refine rq hC [oC [] [21] (lX G hx3),oN aJ x3] (fr 15 4) [(16,ms 21 1 3 aJ x3),(17,vI (x3.length:Int)),(18,vI 0)] [(21,some (ar 38 1 3 aJ x3))] [(21,true)] (qb (bD (γ:=Nat) h (fun x_ g_=>aZ [(2,V.tp (bP p)),(6,ms 20 g_ 1 rI x_.1),(16,ms 21 1 3 aJ x3),(17,vI (x3.length:Int)),(18,vI x_.2)] [(20,ar 3 g_ 1 rI x_.1),(21,ar 38 1 3 aJ x3)] [20,21]) 1 (lS) ?_))
  rintro again7 ⟨x4,x5⟩ g6 h
  refine rq hC [] [19] [(19,vB (decide (x5<(x3.length:Int))))] [] [] (qs (aP h (fun c2 h=> ?_) (fun c2 h=> ?_)))
  ·refine qk (qs (qb ?_))
   obtain⟨x8,hx8,h⟩:=bd h
   refine rq hC [oQ (fJ aJ hx8),oX aJ hx8,.z (.nat 22)] [8,20,21] [(8,V.ref 22 0)] [(22,some (E.cells (aBz x8)))] [(22,true)] ?_
   obtain⟨x9,hx9,x10,hx10,h⟩:=dD h
   exact rk hC [oC [20] [] (tC G g6 hx9),.z (.len 6 (List.map rI x9).length),oQ (aBW rI hx10)] [6,22,23,24,25] [(6,ms 20 g6 1 rI x9)] [(20,some (ar 3 g6 1 rI x9))] [(20,true)] (rk hC [] [18,26] [(18,vI (wr (x5+1)))] [] [] ⟨(x9,wr (x5+1)),g6,h,lS⟩)
  ·obtain rfl:=so h
   exact cO (rq hC [] [4,5,27] [(4,ms 20 g6 1 rI x4),(5,vB true)] [] [] (qw (lk hC [.ren 4 20 0] [4] [(4,ms 0 1 1 rI x4)] [(0,some (ar 3 1 1 rI x4)),(20,none)] [(0,true)]) (qr eW)))
theorem aCH{a}{b}{r}(h:mV n a b=some r):PQ G 17 [vM rI a,vM rI b] (vB r):=by
 unfold mV at h
 refine pq aM Tryz.func17 rfl fun w X hC=> ?_
 refine rq hC [] [4] [] [] [] (qs (rq hC [oN rI a,oN rI b] (fr 6 5) [(10,vB (!decide ((a.length:Int)=(b.length:Int))))] [] [] (aP h (fun c1 h=> ?_) (fun c1 h=> ?_))))
 ·obtain rfl:=so h
  exact rq hC [] [4] [(4,vB false)] [] [] (qr eR)
 ·refine qk (qs (rq hC [] [5] [(5,vI 0)] [] [] (qb (jF h (fun x_=>aZ [(0,vM rI a),(1,vM rI b),(5,vI x_)] [] []) lS ?_))))
  rintro again2 x1 h
  refine qs (rq hC [oN rI a] (fr 11 4) [(14,vB (decide (x1<(a.length:Int))))] [] [] (aP h (fun c2 h=> ?_) (fun c2 h=> ?_)))
  ·refine qk (qs (qb (qs ?_)))
   obtain⟨x3,hx3,x4,hx4,h⟩:=dD h
   refine dk hC bI [oR rI hx3,oR rI hx4] (fr 17 9) [(25,vB (!decide (x3=x4)))] [] [] (aP h (fun c3 h=> ?_) (fun c3 h=> ?_))
   ·obtain rfl:=so h
    exact rq hC [] [4] [(4,vB false)] [] [] (qr eR)
   ·exact qk (rk hC [] [5,15,16] [(5,vI (wr (x1+1)))] [] [] (lE h))
  ·obtain rfl:=so h
   exact cO (rq hC [] [4] [(4,vB true)] [] [] (qr eR))
theorem iS{p}{r}(h:dV n p=some r):VQ G 70 [] [V.agg (bV p)] (ms 0 1 3 aJ r) [ar 38 1 3 aJ r]:=by
 unfold dV at h
 refine vq aM Tryz.func70 rfl fun w X β0 hC hg=> ?_
 refine rq hC [.z (.b (true))] [1,2] [(1,V.tp (bP p))] [] [] (rq hC [.z (.nat 20)] [3,8] [(3,ms 20 1 3 aJ [])] [(20,some (ar 38 1 3 aJ []))] [(20,true)] (qs (rq hC [] [4] [(4,vI 0)] [] [] (qb (bD (γ:=Nat) h (fun x_ g_=>aZ [(1,V.tp (bP p)),(3,ms 20 g_ 3 aJ x_.1),(4,vI x_.2)] [(20,ar 38 g_ 3 aJ x_.1)] [20]) 1 (lS) ?_)))))
 rintro again4 ⟨x1,x2⟩ g3 h
 refine qs (rq hC [oN aE p.parts] (fr 9 5) [(13,vB (decide (x2<(p.parts.length:Int))))] [] [] (aP h (fun c1 h=> ?_) (fun c1 h=> ?_)))
 ·refine qk (qs (qb ?_))
  obtain⟨x5,hx5,x6,hx6,h⟩:=dD h
  refine rq hC [.z (.nat 21),oR aE hx5,oC [21] [] (w8 G n [] 1 x5.nest [] hx6)] [5,16,17,18,19,20,21,22,23] [(5,ms 21 2 1 (rL rI) x6)] [(21,some (ar 27 2 1 (rL rI) x6))] [(21,true),(21,true)] (rq hC [] [6] [(6,vI 0)] [] [] (qb (bD (γ:=Nat) h (fun x_ g_=>aZ [(1,V.tp (bP p)),(3,ms 20 g_ 3 aJ x_.1),(4,vI x2),(5,ms 21 2 1 (rL rI) x6),(6,vI x_.2)] [(20,ar 38 g_ 3 aJ x_.1),(21,ar 27 2 1 (rL rI) x6)] [20,21]) g3 (lS) ?_)))
  rintro again10 ⟨x7,x8⟩ g9 h
  refine qs (rq hC [oN (rL rI) x6] (fr 24 4) [(27,vB (decide (x8<(x6.length:Int))))] [] [] (aP h (fun c2 h=> ?_) (fun c2 h=> ?_)))
  ·refine qk (qs (qb (rq hC [] [7] [(7,vI 0)] [] [] (qb (bD (γ:=Nat) h (fun x_ g_=>aZ [(1,V.tp (bP p)),(3,ms 20 g_ 3 aJ x_.1),(4,vI x2),(5,ms 21 2 1 (rL rI) x6),(6,vI x8),(7,vI x_.2)] [(20,ar 38 g_ 3 aJ x_.1),(21,ar 27 2 1 (rL rI) x6)] [20,21]) g9 (lS) ?_)))))
   rintro again14 ⟨x11,x12⟩ g13 h
   refine qs (rq hC [oR aE hx5,oN aW x5.body] (fr 30 9) [(38,vB (decide (x12<(x5.body.length:Int))))] [] [] (aP h (fun c3 h=> ?_) (fun c3 h=> ?_)))
   ·refine qk (qs (qb ?_))
    obtain⟨x15,hx15,x16,hx16,x17,hx17,h⟩:=iZ h
    exact rk hC [.z (.nat 22),oQ (fJ (rL rI) hx15),oX (rL rI) hx15,oA (aT rI hx16),.z (.at 4),.z (.fz 22 [49] []),.z (.int 0),oQ (cL (r:=rI) 1 (fun _=>rfl) []),oQ (cL (r:=rI) 1 (fun _=>rfl) x15),oA (aT aJ hx17),oQ (cL (r:=aJ) 3 tQ x11),oQ (cL (r:=aJ) 3 tQ [(⟨x2,x12,x16⟩:Inst)])] [3,41,42,43,44,45,46,47,48,49,50,51,52] [(3,ms 20 (g13+1) 3 aJ x17)] [(22,none),(20,some (ar 38 (g13+1) 3 aJ x17))] [(22,true)] (rk hC [] [7,39,40] [(7,vI (wr (x12+1)))] [] [] ⟨(x17,wr (x12+1)),(g13+1),h,lS⟩)
   ·exact cO (rk hC [] [6,28,29] [(6,vI (wr (x8+1)))] [] [] ⟨(x11,wr (x8+1)),g13,h,lS⟩)
  ·exact cO (rk hC [] [4,14,15] [(4,vI (wr (x2+1)))] [] [] ⟨(x7,wr (x2+1)),g9,h,lS⟩)
 ·obtain rfl:=so h
  exact cO (rq hC [] [2,53] [(2,ms 20 g3 3 aJ x1)] [] [] (qw (lk hC [.ren 2 20 0] [2] [(2,ms 0 1 3 aJ x1)] [(0,some (ar 38 1 3 aJ x1)),(20,none)] [(0,true)]) (qr eW)))
theorem aCJ{p}{r}(h:rU n p=some r):VQ G 65 [] [V.agg (bV p)] (ms 0 1 2 cQ r) [ar 83 1 2 cQ r]:=by
 unfold rU at h
 refine vq aM Tryz.func65 rfl fun w X β0 hC hg=> ?_
 refine rq hC [.z (.b (true))] [1,2] [(1,V.tp (bP p))] [] [] (rq hC [.z (.nat 20)] [3,9] [(3,ms 20 1 2 cQ [])] [(20,some (ar 83 1 2 cQ []))] [(20,true)] ?_)
 obtain⟨x1,hx1,h⟩:=bd h
 refine rq hC [oC [] [21] (iS G hx1)] [4,10,11] [(4,ms 21 1 3 aJ x1)] [(21,some (ar 38 1 3 aJ x1))] [(21,true)] (qs (rq hC [] [5] [(5,vI 0)] [] [] (qb (bD (γ:=Nat) h (fun x_ g_=>aZ [(1,V.tp (bP p)),(3,ms 20 g_ 2 cQ x_.1),(4,ms 21 1 3 aJ x1),(5,vI x_.2)] [(20,ar 83 g_ 2 cQ x_.1),(21,ar 38 1 3 aJ x1)] [20,21]) 1 (lS) ?_))))
 rintro again5 ⟨x2,x3⟩ g4 h
 refine qs (rq hC [oN aJ x1] (fr 12 4) [(15,vB (decide (x3<(x1.length:Int))))] [] [] (aP h (fun c1 h=> ?_) (fun c1 h=> ?_)))
 ·refine qk (qs (qb (qs ?_)))
  obtain⟨x6,hx6,x7,hx7,x8,hx8,h⟩:=iZ h
  obtain⟨x9,hx9,h⟩:=bd h
  refine dk hC bI [oQ (fJ aJ hx6),oX aJ hx6,oR aE hx7,oQ (fJ aJ hx6),oX aJ hx6,oR aW hx8,oQ (fJ aJ hx6),oX aJ hx6,oC [] [22] (zO G hx9)] [6,7,8,18,19,20,21,22,23,24,25,26,27,28,29,30,31,32,33,34,35,36,37,38,39,40,41,42,43,44,45,46] [(6,ms 22 1 1 rI x9.1),(7,vI x9.2.1)] [(22,some (ar 3 1 1 rI x9.1))] [(22,true)] ?_
  obtain⟨x10,hx10,h⟩:=bd h
  exact rk hC [.z (.at 4),.z (.fz 22 [6,48] []),.z (.int 0),oA (aT cQ hx10),oQ (cL (r:=cQ) 2 E7 x2),oQ (cL (r:=cQ) 2 E7 [(⟨x9.1,x9.2.1⟩:L6Use)])] [3,6,47,48,49,50,51,52] [(3,ms 20 (g4+1) 2 cQ x10)] [(22,none),(20,some (ar 83 (g4+1) 2 cQ x10))] [] (rk hC [] [5,16,17] [(5,vI (wr (x3+1)))] [] [] ⟨(x10,wr (x3+1)),(g4+1),h,lS⟩)
 ·obtain rfl:=so h
  exact cO (rq hC [] [2,53] [(2,ms 20 g4 2 cQ x2)] [] [] (qw (lk hC [.ren 2 20 0] [2] [(2,ms 0 1 2 cQ x2)] [(0,some (ar 83 1 2 cQ x2)),(20,none)] [(0,true)]) (qr eW)))
theorem T7{list}{n_a1}{r}(h:tK n list n_a1=some r):PQ G 158 [vM rI list,vI n_a1] (vB r):=by
 unfold tK at h
 refine pq aM Tryz.func158 rfl fun w X hC=> ?_
 refine rq hC [] [4] [] [] [] (qs (rq hC [] [5] [(5,vI 0)] [] [] (qb (jF h (fun x_=>aZ [(0,vM rI list),(1,vI n_a1),(5,vI x_)] [] []) lS ?_))))
 rintro again2 x1 h
 refine qs (rq hC [oN rI list] (fr 6 4) [(9,vB (decide (x1<(list.length:Int))))] [] [] (aP h (fun c1 h=> ?_) (fun c1 h=> ?_)))
 ·refine qk (qs (qb ?_))
  obtain⟨x3,hx3,h⟩:=bd h
  refine rq hC [oR rI hx3] (fr 12 6) [(17,vB (decide (x3=n_a1)))] [] [] (aP h (fun c2 h=> ?_) (fun c2 h=> ?_))
  ·obtain rfl:=so h
   exact rq hC [] [4] [(4,vB true)] [] [] (qr eR)
  ·exact qk (rk hC [] [5,10,11] [(5,vI (wr (x1+1)))] [] [] (lE h))
 ·obtain rfl:=so h
  exact cO (rq hC [] [4] [(4,vB false)] [] [] (qr eR))
theorem aBx{order}{many}{r}(h:pJ n order many=some r):PQ G 171 [vM rI order,vI many] (vB r):=by
 unfold pJ at h
 refine pq aM Tryz.func171 rfl fun w X hC=> ?_
 refine rq hC [] [4] [] [] [] ?_
 obtain⟨x1,hx1,h⟩:=bd h
 refine rq hC [.z (.nat 20),oA (u5 rB hx1),oQ (mA hx1).1] [5,8,9] [(5,ms 20 1 1 rB x1)] [(20,some (ar 4 1 1 rB x1))] [(20,true)] (qs (rq hC [oN rI order] [10,11,12] [(10,vM rI order),(11,vI (order.length:Int)),(12,vI 0)] [] [] (qb (bD (γ:=Nat) h (fun x_ g_=>aZ [(0,vM rI order),(1,vI many),(5,ms 20 g_ 1 rB x_.1),(10,vM rI order),(11,vI (order.length:Int)),(12,vI x_.2)] [(20,ar 4 g_ 1 rB x_.1)] [20]) 1 (lS) ?_))))
 rintro again5 ⟨x2,x3⟩ g4 h
 refine rq hC [] [13] [(13,vB (decide (x3<(order.length:Int))))] [] [] (qs (aP h (fun c1 h=> ?_) (fun c1 h=> ?_)))
 ·refine qk (qs (qb ?_))
  obtain⟨x6,hx6,h⟩:=bd h
  refine rq hC [oR rI hx6] [7,14,15] [(7,vI x6)] [] [] (qs (vj h (fun x_=>aZ [(0,vM rI order),(1,vI many),(5,ms 20 g4 1 rB x2),(7,vI x6),(10,vM rI order),(11,vI (order.length:Int)),(12,vI x3),(26,vB x_)] [(20,ar 4 g4 1 rB x2)] [20]) (fun j7 h=> ?_) (fun x10 h=> ?_)))
  ·
   obtain⟨x8,hx8,h⟩:=bd h
   refine aQ h (fun c2 h=> ?_) (fun c2 h=> ?_)
   ·obtain⟨x9,hx9,h⟩:=bd h
    exact rk hC ([oV (bJ G hx8)]++rF 3 c2++[oQ (fJ rB hx9),oF c2,oX rB hx9,oF c2]) (fr 16 11) [(26,vB x9)] [] [] (lE h)
   ·exact rk hC ([oV (bJ G hx8)]++rT 5 c2) (fr 16 11) [(26,vB true)] [] [] (lE h)
  ·refine aP h (fun c3 h=> ?_) (fun c3 h=> ?_)
   ·obtain rfl:=so h
    exact rq hC [] [4] [(4,vB false)] [] [] (qr eR)
   ·refine qk ?_
    obtain⟨x11,hx11,x12,hx12,h⟩:=dD h
    exact rk hC [oQ (fJ rB hx11),oX rB hx11,.z (.rows (List.map rB x12)),.z (.len 5 (List.map rB x12).length),oQ (str rB hx12),oQ (lJ rB hx12)] [5,27,28,29] [(5,ms 20 g4 1 rB x12)] [(20,some (ar 4 g4 1 rB x12))] [] (rk hC [] [12,30] [(12,vI (wr (x3+1)))] [] [] ⟨(x12,wr (x3+1)),g4,h,lS⟩)
 ·obtain rfl:=so h
  exact cO (rq hC [oN rI order] [4,31,32,33,34] [(4,vB (decide ((order.length:Int)=many)))] [] [] (qr eR))
theorem nR{p}{order}{r}(h:hS n p order=some r):PQ G 72 [V.agg (bV p),vM rI order] (vB r):=by
 unfold hS at h
 refine pq aM Tryz.func72 rfl fun w X hC=> ?_
 refine rq hC [.z (.b (true))] [2,4] [(2,V.tp (bP p))] [] [] ?_
 obtain⟨x1,hx1,h⟩:=bd h
 refine rq hC [oC [] [20] (eB G hx1)] (fr 5 7) [(5,ms 20 1 3 aJ x1.1),(6,vB x1.2)] [(20,some (ar 38 1 3 aJ x1.1))] [(20,true)] (vj h (fun x_=>aZ [(4,vB x_)] [(20,ar 38 1 3 aJ x1.1)] [20]) (fun j2 h=> ?_) (fun x4 h=> ?_))
 ·
  refine aQ h (fun c1 h=> ?_) (fun c1 h=> ?_)
  ·exact rk hC (rF 5 c1) [4,12,13,14,15,16,17,18] [(4,vB false)] [] [] (lE h)
  ·obtain⟨x3,hx3,h⟩:=bd h
   exact rk hC (rT 3 c1++[oN aJ x1.1,oT c1,oV (aBx G hx3),oT c1]) [4,12,13,14,15,16,17,18] [(4,vB x3)] [] [] (lE h)
 ·obtain rfl:=so h
  exact qr eR
theorem Z8{p}{m}{order}{r}(h:kR n p m order=some r):VQ G 22 [] [V.agg (bV p),vM rI m,vM rI order] (V.tup [ms 0 1 1 rI r.1,vB r.2]) [ar 3 1 1 rI r.1]:=by
 unfold kR at h
 refine vq aM Tryz.func22 rfl fun w X β0 hC hg=> ?_
 refine rq hC [.z (.b (true))] [3,6,7] [(3,V.tp (bP p))] [] [] (qs (vj h (fun x_=>aZ [(1,vM rI m),(2,vM rI order),(3,V.tp (bP p)),(21,vB x_)] [] []) (fun j1 h=> ?_) (fun x4 h=> ?_)))
 ·
  obtain⟨x2,hx2,h⟩:=bd h
  refine aQ h (fun c1 h=> ?_) (fun c1 h=> ?_)
  ·obtain⟨x3,hx3,h⟩:=bd h
   exact rk hC ([oV (l4 G hx2)]++rF 3 c1++[oV (nR G hx3),oF c1,oF c1]) (fr 12 10) [(21,vB (!x3))] [] [] (lE h)
  ·exact rk hC ([oV (l4 G hx2)]++rT 5 c1) (fr 12 10) [(21,vB true)] [] [] (lE h)
 ·refine aP h (fun c2 h=> ?_) (fun c2 h=> ?_)
  ·obtain rfl:=so h
   exact rq hC [] [6,7] [(6,V.t T.nilS),(7,vB false)] [] [] (qw (lk hC [.grow 6 0 3] [6] [(6,ms 0 1 1 rI [])] [(0,some (ar 3 1 1 rI []))] [(0,true)]) (qr eW))
  ·refine qk ?_
   obtain⟨x5,hx5,h⟩:=bd h
   refine rq hC [oC [] [20] (lX G hx5)] [8,22,23] [(8,ms 20 1 3 aJ x5)] [(20,some (ar 38 1 3 aJ x5))] [(20,true)] ?_
   obtain⟨x6,hx6,h⟩:=bd h
   refine rq hC [oC [] [21] (G.clone m hx6)] [9,24,25] [(9,ms 21 1 1 rI x6)] [(21,some (ar 3 1 1 rI x6))] [(21,true)] (qs (rq hC [oN rI order] [26,27,28] [(26,vM rI order),(27,vI (order.length:Int)),(28,vI 0)] [] [] (qb (bD (γ:=Nat) h (fun x_ g_=>aZ [(3,V.tp (bP p)),(8,ms 20 1 3 aJ x5),(9,ms 21 g_ 1 rI x_.1),(26,vM rI order),(27,vI (order.length:Int)),(28,vI x_.2)] [(20,ar 38 1 3 aJ x5),(21,ar 3 g_ 1 rI x_.1)] [20,21]) 1 (lS) ?_))))
   rintro again10 ⟨x7,x8⟩ g9 h
   refine rq hC [] [29] [(29,vB (decide (x8<(order.length:Int))))] [] [] (qs (aP h (fun c3 h=> ?_) (fun c3 h=> ?_)))
   ·refine qk (qs (qb ?_))
    obtain⟨x11,hx11,h⟩:=bd h
    refine rq hC [oR rI hx11] [11,30,31] [(11,vI x11)] [] [] ?_
    obtain⟨x12,hx12,x13,hx13,x14,hx14,h⟩:=iZ h
    exact dk hC bI [oQ (fJ aJ hx12),oX aJ hx12,oC [21] [] (tC G g9 hx13)] (fr 32 7) [] [(21,some (ar 3 g9 1 rI x13))] [(21,true)] (qw (lpP hC [.len 9 (List.map rI x13).length] [9] [(9,ms 21 g9 1 rI x13)] [] [] (a1 (aBW rI hx14)) (by kernel_rfl)) (rk hC [] [28,39] [(28,vI (wr (x8+1)))] [] [] ⟨(x13,wr (x8+1)),g9,h,lS⟩))
   ·obtain rfl:=so h
    exact cO (rq hC [] [6,7,40] [(6,ms 21 g9 1 rI x7),(7,vB true)] [] [] (qw (lk hC [.ren 6 21 0] [6] [(6,ms 0 1 1 rI x7)] [(0,some (ar 3 1 1 rI x7)),(21,none)] [(0,true)]) (qr eW)))
theorem vO{t}{from_a1}{to_a2}{r}(h:fC n t from_a1 to_a2=some r):PQ G 74 [V.tp [T.sl (List.map aN t.program.arrays),T.sl (List.map aE t.program.parts),T.sl (List.map aJ t.list),T.sl (List.map (rL rI) t.reads),T.sl (List.map rI t.writes)],vI from_a1,vI to_a2] (vI r):=by
 unfold fC at h
 refine pq aM Tryz.func74 rfl fun w X hC=> ?_
 refine rq hC [] [6] [] [] [] (rq hC [] [7] [(7,vI 0)] [] [] (vj h (fun x_=>aZ [(0,V.tp [T.sl (List.map aN t.program.arrays),T.sl (List.map aE t.program.parts),T.sl (List.map aJ t.list),T.sl (List.map (rL rI) t.reads),T.sl (List.map rI t.writes)]),(1,vI from_a1),(2,vI to_a2),(7,vI x_)] [] []) (fun j1 h=> ?_) (fun x5 h=> ?_)))
 ·
  refine qs ?_
  obtain⟨x2,hx2,x3,hx3,x4,hx4,h⟩:=iZ h
  refine dk hC bI [oR (rL rI) hx2,oR rI hx3,oV (pU G hx4)] (fr 8 15) [(22,vB x4)] [] [] (aP h (fun c1 h=> ?_) (fun c1 h=> ?_))
  ·exact rk hC [] [7,23,24] [(7,vI (wr (0+1)))] [] [] (lE h)
  ·exact qk (lE h)
 ·refine vj h (fun x_=>aZ [(0,V.tp [T.sl (List.map aN t.program.arrays),T.sl (List.map aE t.program.parts),T.sl (List.map aJ t.list),T.sl (List.map (rL rI) t.reads),T.sl (List.map rI t.writes)]),(1,vI from_a1),(2,vI to_a2),(7,vI x_)] [] []) (fun j6 h=> ?_) (fun x10 h=> ?_)
  ·
   refine qs ?_
   obtain⟨x7,hx7,x8,hx8,x9,hx9,h⟩:=iZ h
   refine dk hC bI [oR (rL rI) hx7,oR rI hx8,oV (pU G hx9)] (fr 25 15) [(39,vB x9)] [] [] (aP h (fun c2 h=> ?_) (fun c2 h=> ?_))
   ·exact rk hC [] [7,40,41] [(7,vI (wr (x5+2)))] [] [] (lE h)
   ·exact qk (lE h)
  ·refine vj h (fun x_=>aZ [(7,vI x_)] [] []) (fun j11 h=> ?_) (fun x14 h=> ?_)
   ·
    refine qs ?_
    obtain⟨x12,hx12,x13,hx13,h⟩:=dD h
    refine dk hC bI [oR rI hx12,oR rI hx13] (fr 42 15) [(56,vB (decide (x12=x13)))] [] [] (aP h (fun c3 h=> ?_) (fun c3 h=> ?_))
    ·exact rk hC [] [7,57,58] [(7,vI (wr (x10+4)))] [] [] (lE h)
    ·exact qk (lE h)
   ·obtain rfl:=so h
    exact rq hC [] [6,59] [(6,vI x14)] [] [] (qr eR)
theorem aBh{a}{b}{r}(h:oW n a b=some r):PQ G 75 [V.agg [vM rI a.reads,vI a.write],V.agg [vM rI b.reads,vI b.write]] (vI r):=by
 unfold oW at h
 refine pq aM Tryz.func75 rfl fun w X hC=> ?_
 refine rq hC [.z (.b (true)),.z (.b (true))] [2,3,4] [(2,V.tp [T.sl (List.map rI a.reads),T.int .i64 a.write]),(3,V.tp [T.sl (List.map rI b.reads),T.int .i64 b.write])] [] [] (rq hC [] [5] [(5,vI 0)] [] [] (vj h (fun x_=>aZ [(2,V.tp [T.sl (List.map rI a.reads),T.int .i64 a.write]),(3,V.tp [T.sl (List.map rI b.reads),T.int .i64 b.write]),(5,vI x_)] [] []) (fun j1 h=> ?_) (fun x3 h=> ?_)))
 ·
  obtain⟨x2,hx2,h⟩:=bd h
  refine rq hC [oV (T7 G hx2)] (fr 6 5) [(10,vB x2)] [] [] (aP h (fun c1 h=> ?_) (fun c1 h=> ?_))
  ·exact rk hC [] [5,11,12] [(5,vI (wr (0+1)))] [] [] (lE h)
  ·exact qk (lE h)
 ·refine vj h (fun x_=>aZ [(2,V.tp [T.sl (List.map rI a.reads),T.int .i64 a.write]),(3,V.tp [T.sl (List.map rI b.reads),T.int .i64 b.write]),(5,vI x_)] [] []) (fun j4 h=> ?_) (fun x6 h=> ?_)
  ·
   obtain⟨x5,hx5,h⟩:=bd h
   refine rq hC [oV (T7 G hx5)] (fr 13 5) [(17,vB x5)] [] [] (aP h (fun c2 h=> ?_) (fun c2 h=> ?_))
   ·exact rk hC [] [5,18,19] [(5,vI (wr (x3+2)))] [] [] (lE h)
   ·exact qk (lE h)
  ·refine vj h (fun x_=>aZ [(5,vI x_)] [] []) (fun j7 h=> ?_) (fun x8 h=> ?_)
   ·
    refine rq hC [] (fr 20 5) [(24,vB (decide (a.write=b.write)))] [] [] (aP h (fun c3 h=> ?_) (fun c3 h=> ?_))
    ·exact rk hC [] [5,25,26] [(5,vI (wr (x6+4)))] [] [] (lE h)
    ·exact qk (lE h)
   ·obtain rfl:=so h
    exact rq hC [] [4,27] [(4,vI x8)] [] [] (qr eR)
theorem A9{t}{r}(h:iN n t=some r):VQ G 96 [] [V.tp [T.sl (List.map aN t.program.arrays),T.sl (List.map aE t.program.parts),T.sl (List.map aJ t.list),T.sl (List.map (rL rI) t.reads),T.sl (List.map rI t.writes)]] (ms 0 1 3 aV r) [ar 100 1 3 aV r]:=by
 unfold iN at h
 refine vq aM Tryz.func96 rfl fun w X β0 hC hg=> ?_
 refine rq hC [] [2] [] [] [] (rq hC [] [3] [(3,V.t T.nilS)] [] [] (qs (rq hC [oN aJ t.list] (fr 7 6) [(11,vI (t.list.length:Int)),(12,vI 0)] [] [] (qb (qw (lk hC [.grow 3 20 100] [3] [(3,ms 20 1 3 aV [])] [(20,some (ar 100 1 3 aV []))] [(20,true)]) ?_)))))
 refine bD (γ:=Nat) h (fun x_ g_=>aZ [(0,V.tp [T.sl (List.map aN t.program.arrays),T.sl (List.map aE t.program.parts),T.sl (List.map aJ t.list),T.sl (List.map (rL rI) t.reads),T.sl (List.map rI t.writes)]),(3,ms 20 g_ 3 aV x_.1),(11,vI (t.list.length:Int)),(12,vI x_.2)] [(20,ar 100 g_ 3 aV x_.1)] [20]) 1 (lS) ?_
 rintro again4 ⟨x1,x2⟩ g3 h
 refine rq hC [] [13] [(13,vB (decide (x2<(t.list.length:Int))))] [] [] (qs (aP h (fun c1 h=> ?_) (fun c1 h=> ?_)))
 ·refine qk (qs (qb (rq hC [] [4,14] [(4,vI x2)] [] [] (rq hC [] [5,15,16] [(5,vI (wr (x2+1)))] [] [] (qb (bD (γ:=Nat) h (fun x_ g_=>aZ [(0,V.tp [T.sl (List.map aN t.program.arrays),T.sl (List.map aE t.program.parts),T.sl (List.map aJ t.list),T.sl (List.map (rL rI) t.reads),T.sl (List.map rI t.writes)]),(3,ms 20 g_ 3 aV x_.1),(4,vI x2),(5,vI x_.2),(11,vI (t.list.length:Int)),(12,vI x2)] [(20,ar 100 g_ 3 aV x_.1)] [20]) g3 (lS) ?_))))))
  rintro again8 ⟨x5,x6⟩ g7 h
  refine qs (rq hC [oN aJ t.list] (fr 17 7) [(23,vB (decide (x6<(t.list.length:Int))))] [] [] (aP h (fun c2 h=> ?_) (fun c2 h=> ?_)))
  ·refine qk ?_
   obtain⟨j9,hj9,h⟩:=wL h
   refine iT (γ:=Nat) (j:=j9) (r:=r) (fun x_ g_=>aZ [(0,V.tp [T.sl (List.map aN t.program.arrays),T.sl (List.map aE t.program.parts),T.sl (List.map aJ t.list),T.sl (List.map (rL rI) t.reads),T.sl (List.map rI t.writes)]),(3,ms 20 g_ 3 aV x_),(4,vI x2),(5,vI x6),(11,vI (t.list.length:Int)),(12,vI x2)] [(20,ar 100 g_ 3 aV x_)] [20]) ?_ ?_
   ·
    refine qb ?_
    obtain⟨x10,hx10,h⟩:=bd h
    refine rq hC [oV (vO G hx10)] [6,26,27,28,29] [(6,vI x10)] [] [] (rq hC [] [30,31] [(31,vB (decide ((0:Int)<x10)))] [] [] (aP h (fun c3 h=> ?_) (fun c3 h=> ?_)))
    ·obtain⟨x11,hx11,h⟩:=bd h
     exact rk hC [.z (.int 0),oA (aT aV hx11),oQ (cL (r:=aV) 3 pB x5),oQ (cL (r:=aV) 3 pB [(⟨x2,x6,x10⟩:Dep)])] [3,32,33,34,35,36,37,38] [(3,ms 20 (g7+1) 3 aV x11)] [(20,some (ar 100 (g7+1) 3 aV x11))] [] ⟨x11,(g7+1),h,lS⟩
    ·exact qk ⟨x5,g7,h,lS⟩
   ·rintro x12 g13 h
    subst hj9
    exact rk hC [] [5,24,25] [(5,vI (wr (x6+1)))] [] [] ⟨(x12,wr (x6+1)),g13,h,lS⟩
  ·exact cO (rk hC [] [12,39] [(12,vI (wr (x2+1)))] [] [] ⟨(x5,wr (x2+1)),g7,h,lS⟩)
 ·obtain rfl:=so h
  exact cO (rq hC [] [2,40] [(2,ms 20 g3 3 aV x1)] [] [] (qw (lk hC [.ren 2 20 0] [2] [(2,ms 0 1 3 aV x1)] [(0,some (ar 100 1 3 aV x1)),(20,none)] [(0,true)]) (qr eW)))
theorem aCK{p}{r}(h:rV n p=some r):VQ G 82 [] [V.agg (bV p)] (ms 0 1 3 aV r) [ar 100 1 3 aV r]:=by
 unfold rV at h
 refine vq aM Tryz.func82 rfl fun w X β0 hC hg=> ?_
 refine rq hC [.z (.b (true))] [1,2] [(1,V.tp (bP p))] [] [] (rq hC [.z (.nat 20)] [3,8] [(3,ms 20 1 3 aV [])] [(20,some (ar 100 1 3 aV []))] [(20,true)] ?_)
 obtain⟨x1,hx1,h⟩:=bd h
 refine rq hC [oC [] [21] (aCJ G hx1)] [4,9,10] [(4,ms 21 1 2 cQ x1)] [(21,some (ar 83 1 2 cQ x1))] [(21,true)] (qs (rq hC [] [5] [(5,vI 0)] [] [] (qb (bD (γ:=Nat) h (fun x_ g_=>aZ [(3,ms 20 g_ 3 aV x_.1),(4,ms 21 1 2 cQ x1),(5,vI x_.2)] [(20,ar 100 g_ 3 aV x_.1),(21,ar 83 1 2 cQ x1)] [20,21]) 1 (lS) ?_))))
 rintro again5 ⟨x2,x3⟩ g4 h
 refine qs (rq hC [oN cQ x1] (fr 11 4) [(14,vB (decide (x3<(x1.length:Int))))] [] [] (aP h (fun c1 h=> ?_) (fun c1 h=> ?_)))
 ·refine qk (qs (qb (rq hC [] [6,17,18] [(6,vI (wr (x3+1)))] [] [] (qb (bD (γ:=Nat) h (fun x_ g_=>aZ [(3,ms 20 g_ 3 aV x_.1),(4,ms 21 1 2 cQ x1),(5,vI x3),(6,vI x_.2)] [(20,ar 100 g_ 3 aV x_.1),(21,ar 83 1 2 cQ x1)] [20,21]) g4 (lS) ?_)))))
  rintro again9 ⟨x6,x7⟩ g8 h
  refine qs (rq hC [oN cQ x1] (fr 19 4) [(22,vB (decide (x7<(x1.length:Int))))] [] [] (aP h (fun c2 h=> ?_) (fun c2 h=> ?_)))
  ·refine qk ?_
   obtain⟨j10,hj10,h⟩:=wL h
   refine iT (γ:=Nat) (j:=j10) (r:=r) (fun x_ g_=>aZ [(3,ms 20 g_ 3 aV x_),(4,ms 21 1 2 cQ x1),(5,vI x3),(6,vI x7)] [(20,ar 100 g_ 3 aV x_),(21,ar 83 1 2 cQ x1)] [20,21]) ?_ ?_
   ·
    refine qb (qs ?_)
    obtain⟨x11,hx11,x12,hx12,x13,hx13,h⟩:=iZ h
    refine dk hC bI [oQ (fJ cQ hx11),oX cQ hx11,oQ (fJ cQ hx12),oX cQ hx12,oV (aBh G hx13)] [7,25,26,27,28,29,30,31,32,33] [(7,vI x13)] [] [] (rq hC [] [34,35] [(35,vB (!decide (x13=0)))] [] [] (aP h (fun c3 h=> ?_) (fun c3 h=> ?_)))
    ·obtain⟨x14,hx14,h⟩:=bd h
     exact rk hC [.z (.int 0),oA (aT aV hx14),oQ (cL (r:=aV) 3 pB x6),oQ (cL (r:=aV) 3 pB [(⟨x3,x7,x13⟩:Dep)])] [3,36,37,38,39,40,41,42] [(3,ms 20 (g8+1) 3 aV x14)] [(20,some (ar 100 (g8+1) 3 aV x14))] [] ⟨x14,(g8+1),h,lS⟩
    ·exact qk ⟨x6,g8,h,lS⟩
   ·rintro x15 g16 h
    subst hj10
    exact rk hC [] [6,23,24] [(6,vI (wr (x7+1)))] [] [] ⟨(x15,wr (x7+1)),g16,h,lS⟩
  ·exact cO (rk hC [] [5,15,16] [(5,vI (wr (x3+1)))] [] [] ⟨(x6,wr (x3+1)),g8,h,lS⟩)
 ·obtain rfl:=so h
  exact cO (rq hC [] [2,43] [(2,ms 20 g4 3 aV x2)] [] [] (qw (lk hC [.ren 2 20 0] [2] [(2,ms 0 1 3 aV x2)] [(0,some (ar 100 1 3 aV x2)),(20,none)] [(0,true)]) (qr eW)))
end Go.Lift
