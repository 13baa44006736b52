/- The walks: the code computes what the plain functions say. -/
import Derived.Test.YtohillieiccgdaaGreatDoorXModels
import Derived.Test.YtohillieiccgdaaGreatDoorXWalks2
set_option maxRecDepth 10000
set_option linter.unusedVariables false
namespace Go.Lift
open Go Go.Proofs
variable (G:GS) {n:Nat}
theorem fP{a}{r}(h:iI n a=some r):PQ G 101 [V.agg (bC a)] (vB r):=by
 unfold iI at h
 refine pq aQ Tryz.func101 rfl fun w X hC=> ?_
 refine rq hC [.z (.b (true))] [1,2] [(1,V.tp (bI a))] [] [] (vj h (fun x_=>bA [(2,vB x_)] [] []) (fun j1 h=> ?_) (fun x2 h=> ?_))
 ·
  refine aT h (fun c1 h=> ?_) (fun c1 h=> ?_)
  ·exact rk hC ([oN rI a.coefs]++rF 4 c1) (fr 2 10) [(2,vB false)] [] [] (lE h)
  ·exact rk hC ([oN rI a.coefs]++rT 4 c1) (fr 2 10) [(2,vB (decide (a.const=0)))] [] [] (lE h)
 ·obtain rfl:=so h
  exact qr eR
theorem jU{a}{r}(h:fD n a=some r):PQ G 102 [V.agg (dV a)] (vB r):=by
 unfold fD at h
 refine pq aQ Tryz.func102 rfl fun w X hC=> ?_
 refine rq hC [.z (.b (true))] [1,2] [(1,V.tp (dU a))] [] [] (vj h (fun x_=>bA [(2,vB x_)] [] []) (fun j1 h=> ?_) (fun x2 h=> ?_))
 ·
  refine aT h (fun c1 h=> ?_) (fun c1 h=> ?_)
  ·exact rk hC (rF 5 c1) (fr 2 10) [(2,vB false)] [] [] (lE h)
  ·exact rk hC (rT 3 c1++[oN aB a.subs,oT c1,oT c1]) (fr 2 10) [(2,vB (decide ((a.subs.length:Int)=0)))] [] [] (lE h)
 ·obtain rfl:=so h
  exact qr eR
theorem O8{kind}{r}(h:w9 n kind=some r):PQ G 103 [vI kind] (vB r):=by
 unfold w9 at h
 refine pq aQ Tryz.func103 rfl fun w X hC=> ?_
 refine rq hC [] [2] [] [] [] ?_
 obtain⟨x1,hx1,h⟩:=bd h
 obtain rfl:=so h
 exact rq hC [oV (bH G hx1)] [2,3,4] [(2,vB x1)] [] [] (qr eR)
theorem G8(G:GS): ∀(n:Nat) (e:Expr) (depth:Int) (deep:Int) (count:Int) {r:Bool×Int} (h:i_exprScan n e depth deep count=some r),VQ G 66 [E.cells [vI count]] [V.agg (fV e),vI depth,vI deep,V.ref 0 0] (vB r.1) [E.cells [vI r.2]]:=by
 intro n
 induction n with
 |zero=>intro e depth deep count r h;rw [i_exprScan.eq_def] at h;cases h
 |succ n ih=>
  intro e depth deep count r h
  rw [i_exprScan.eq_def] at h;dsimp only at h
  refine vq aQ Tryz.func66 rfl fun w X β0 hC hg=> ?_
  refine rq hC [.z (.b (true))] [4,8] [(4,V.tp (hA e))] [] [] (rq hC [] (fr 9 5) [] [(0,sc [vI (wr (count+1))])] [] (qs (vj h (fun x_=>bA [(1,vI depth),(2,vI deep),(3,V.ref 0 0),(4,V.tp (hA e)),(21,vB x_)] [(0,E.cells [vI (wr (count+1))])] [0]) (fun j1 h=> ?_) (fun x2 h=> ?_))))
  ·
   refine aT h (fun c1 h=> ?_) (fun c1 h=> ?_)
   ·exact rk hC (rF 3 c1) (fr 14 8) [(21,vB (decide ((5:Int)<deep)))] [] [] (lE h)
   ·exact rk hC (rT 3 c1) (fr 14 8) [(21,vB true)] [] [] (lE h)
  ·refine aS h (fun c2 h=> ?_) (fun c2 h=> ?_)
   ·obtain rfl:=so h
    exact rq hC [] [8] [(8,vB false)] [] [] (qr eW)
   ·refine qk (qs (vj h (fun x_=>bA [(1,vI depth),(2,vI deep),(3,V.ref 0 0),(4,V.tp (hA e)),(51,vB x_)] [(0,E.cells [vI (wr (count+1))])] [0]) (fun j3 h=> ?_) (fun x10 h=> ?_)))
    ·
     refine aT h (fun c3 h=> ?_) (fun c3 h=> ?_)
     ·refine aT h (fun c4 h=> ?_) (fun c4 h=> ?_)
      ·refine aT h (fun c5 h=> ?_) (fun c5 h=> ?_)
       ·exact rk hC (rF 4 c3++sF 4++rF 4 c4++[eF,oF c4]++sF 5++rF 4 c5++[eF,oF c5,eF]) (fr 22 30) [(51,vB false)] [] [] (lE h)
       ·obtain⟨x4,hx4,h⟩:=bd h
        exact rk hC (rF 4 c3++sF 4++rF 4 c4++[eF,oF c4]++sF 5++rT 3 c5++[oV (jU G hx4),oT c5,eF,oT c5,eF]) (fr 22 30) [(51,vB (!x4))] [] [] (lE h)
      ·obtain⟨x5,hx5,h⟩:=bd h
       refine aT h (fun c6 h=> ?_) (fun c6 h=> ?_)
       ·refine aT h (fun c7 h=> ?_) (fun c7 h=> ?_)
        ·exact rk hC (rF 4 c3++sF 4++rT 3 c4++[oV (fP G hx5),oT c4,eF,oT c4,eF]++rF 4 c6++rF 4 c7++[oF c6,oF c7,oF c6]) (fr 22 30) [(51,vB false)] [] [] (lE h)
        ·obtain⟨x6,hx6,h⟩:=bd h
         exact rk hC (rF 4 c3++sF 4++rT 3 c4++[oV (fP G hx5),oT c4,eF,oT c4,eF]++rF 4 c6++rT 3 c7++[oV (jU G hx6),oT c7,oF c6,oT c7,oF c6]) (fr 22 30) [(51,vB (!x6))] [] [] (lE h)
       ·exact rk hC (rF 4 c3++sF 4++rT 3 c4++[oV (fP G hx5),oT c4,eF,oT c4,eF]++rT 6 c6) (fr 22 30) [(51,vB true)] [] [] (lE h)
     ·refine aT h (fun c8 h=> ?_) (fun c8 h=> ?_)
      ·refine aT h (fun c9 h=> ?_) (fun c9 h=> ?_)
       ·refine aT h (fun c10 h=> ?_) (fun c10 h=> ?_)
        ·exact rk hC (rT 4 c3++rF 4 c8++rF 4 c9++[oF c8,oF c9,oF c8]++sF 4++rF 4 c10++[eF,oF c10,eF]) (fr 22 30) [(51,vB false)] [] [] (lE h)
        ·obtain⟨x7,hx7,h⟩:=bd h
         exact rk hC (rT 4 c3++rF 4 c8++rF 4 c9++[oF c8,oF c9,oF c8]++sF 4++rT 3 c10++[oV (jU G hx7),oT c10,eF,oT c10,eF]) (fr 22 30) [(51,vB (!x7))] [] [] (lE h)
       ·obtain⟨x8,hx8,h⟩:=bd h
        refine aT h (fun c11 h=> ?_) (fun c11 h=> ?_)
        ·refine aT h (fun c12 h=> ?_) (fun c12 h=> ?_)
         ·exact rk hC (rT 4 c3++rF 4 c8++rT 3 c9++[oV (fP G hx8),oT c9,oF c8,oT c9,oF c8]++rF 4 c11++rF 4 c12++[oF c11,oF c12,oF c11]) (fr 22 30) [(51,vB false)] [] [] (lE h)
         ·obtain⟨x9,hx9,h⟩:=bd h
          exact rk hC (rT 4 c3++rF 4 c8++rT 3 c9++[oV (fP G hx8),oT c9,oF c8,oT c9,oF c8]++rF 4 c11++rT 3 c12++[oV (jU G hx9),oT c12,oF c11,oT c12,oF c11]) (fr 22 30) [(51,vB (!x9))] [] [] (lE h)
        ·exact rk hC (rT 4 c3++rF 4 c8++rT 3 c9++[oV (fP G hx8),oT c9,oF c8,oT c9,oF c8]++rT 6 c11) (fr 22 30) [(51,vB true)] [] [] (lE h)
      ·exact rk hC (rT 4 c3++rT 6 c8++sT 6) (fr 22 30) [(51,vB true)] [] [] (lE h)
    ·refine aS h (fun c13 h=> ?_) (fun c13 h=> ?_)
     ·obtain rfl:=so h
      exact rq hC [] [8] [(8,vB false)] [] [] (qr eW)
     ·refine qk (qs (qb (rq hC [] (fr 52 4) [(52,vB (decide (e.kind=1)))] [] [] (aS h (fun c14 h=> ?_) (fun c14 h=> ?_)))))
      ·refine vj h (fun x_=>bA [(8,vB x_)] [(0,E.cells [vI (wr (count+1))])] [0]) (fun j11 h=> ?_) (fun x13 h=> ?_)
       ·
        obtain⟨x12,hx12,h⟩:=bd h
        refine aT h (fun c15 h=> ?_) (fun c15 h=> ?_)
        ·exact rk hC ([oV (bH G hx12)]++rF 5 c15) [8,56,57,58,59,60,61,62,63,64] [(8,vB false)] [] [] (lE h)
        ·exact rk hC ([oV (bH G hx12)]++rT 3 c15++[oN aM e.kids,oT c15,oT c15]) [8,56,57,58,59,60,61,62,63,64] [(8,vB (decide ((e.kids.length:Int)=0)))] [] [] (lE h)
       ·obtain rfl:=so h
        exact qr eW
      ·refine rq hC [] (fr 65 4) [(65,vB (decide (e.kind=2)))] [] [] (aS h (fun c16 h=> ?_) (fun c16 h=> ?_))
       ·refine vj h (fun x_=>bA [(8,vB x_)] [(0,E.cells [vI (wr (count+1))])] [0]) (fun j14 h=> ?_) (fun x17 h=> ?_)
        ·
         obtain⟨x15,hx15,h⟩:=bd h
         refine aT h (fun c17 h=> ?_) (fun c17 h=> ?_)
         ·exact rk hC ([oV (cW G hx15)]++rF 6 c17++sF 5) [8,69,70,71,72,73,74,75,76,77,78,79,80,81,82,83,84] [(8,vB false)] [] [] (lE h)
         ·obtain⟨x16,hx16,h⟩:=bd h
          refine aT h (fun c18 h=> ?_) (fun c18 h=> ?_)
          ·exact rk hC ([oV (cW G hx15)]++rT 3 c17++[oV (fQ G hx16)]++rT 3 c17++rF 5 c18) [8,69,70,71,72,73,74,75,76,77,78,79,80,81,82,83,84] [(8,vB false)] [] [] (lE h)
          ·exact rk hC ([oV (cW G hx15)]++rT 3 c17++[oV (fQ G hx16)]++rT 3 c17++rT 3 c18++[oN aM e.kids,oT c18,oT c18]) [8,69,70,71,72,73,74,75,76,77,78,79,80,81,82,83,84] [(8,vB (decide ((e.kids.length:Int)=0)))] [] [] (lE h)
        ·obtain rfl:=so h
         exact qr eW
       ·refine rq hC [] (fr 85 4) [(85,vB (decide (e.kind=3)))] [] [] (aS h (fun c19 h=> ?_) (fun c19 h=> ?_))
        ·refine vj h (fun x_=>bA [(8,vB x_)] [(0,E.cells [vI (wr (count+1))])] [0]) (fun j18 h=> ?_) (fun x20 h=> ?_)
         ·
          obtain⟨x19,hx19,h⟩:=bd h
          refine aT h (fun c20 h=> ?_) (fun c20 h=> ?_)
          ·exact rk hC ([oV (jV G hx19)]++rF 5 c20) [8,89,90,91,92,93,94,95,96,97,98] [(8,vB false)] [] [] (lE h)
          ·exact rk hC ([oV (jV G hx19)]++rT 3 c20++[oN aM e.kids,oT c20,oT c20]) [8,89,90,91,92,93,94,95,96,97,98] [(8,vB (decide ((e.kids.length:Int)=0)))] [] [] (lE h)
         ·obtain rfl:=so h
          exact qr eW
        ·refine vj h (fun x_=>bA [(1,vI depth),(2,vI deep),(3,V.ref 0 0),(4,V.tp (hA e)),(99,vB x_)] [(0,E.cells [vI (wr (count+1))])] [0]) (fun j21 h=> ?_) (fun x23 h=> ?_)
         ·
          obtain⟨x22,hx22,h⟩:=bd h
          refine aT h (fun c21 h=> ?_) (fun c21 h=> ?_)
          ·exact rk hC ([oV (O8 G hx22)]++rF 3 c21++[oN aM e.kids,oF c21,oF c21]) (fr 99 11) [(99,vB (!decide ((e.kids.length:Int)=2)))] [] [] (lE h)
          ·exact rk hC ([oV (O8 G hx22)]++rT 5 c21) (fr 99 11) [(99,vB true)] [] [] (lE h)
         ·refine aS h (fun c22 h=> ?_) (fun c22 h=> ?_)
          ·obtain rfl:=so h
           exact rq hC [] [8] [(8,vB false)] [] [] (qr eW)
          ·refine qk (vj h (fun x_=>bA [(8,vB x_.2)] [(0,E.cells [vI x_.1])] [0]) (fun j24 h=> ?_) ?_)
           ·
            obtain⟨x25,hx25,x26,hx26,h⟩:=d7 h
            refine aT h (fun c23 h=> ?_) (fun c23 h=> ?_)
            ·exact rk hC ([.z (.row (fA x25)),oQ (iU aM hx25 (dY x25)),oC [0] [] (ih x25 depth (wr (deep+1)) (wr (count+1)) hx26)]++rF 10 c23) [8,110,111,112,113,114,115,116,117,118,119,120,121,122,123,124,125,126,127,128,129] [(8,vB false)] [(0,sc [vI x26.2])] [(0,true)] (lE h)
            ·obtain⟨x27,hx27,x28,hx28,h⟩:=d7 h
             exact rk hC ([.z (.row (fA x25)),oQ (iU aM hx25 (dY x25)),oC [0] [] (ih x25 depth (wr (deep+1)) (wr (count+1)) hx26)]++rT 3 c23++[.z (.row (fA x27)),oQ (iU aM hx27 (dY x27))]++rT 6 c23++[oC [0] [] (ih x27 depth (wr (deep+1)) x26.2 hx28),oT c23]) [8,110,111,112,113,114,115,116,117,118,119,120,121,122,123,124,125,126,127,128,129] [(8,vB x28.1)] [(0,sc [vI x28.2])] [(0,true),(0,true)] (lE h)
           ·rintro⟨x29,x30⟩ h
            obtain rfl:=so h
            exact qr eW
theorem y8{s}{depth}{r}(h:jD n s depth=some r):PQ G 40 [V.agg (hS s),vI depth] (vB r):=by
 unfold jD at h
 refine pq aQ Tryz.func40 rfl fun w X hC=> ?_
 refine rq hC [.z (.b (true))] [2,4] [(2,V.tp (pY s))] [] [] (rq hC [.z (.nat 20)] [5] [(5,V.ref 20 0)] [(20,sc [vI 0])] [(20,true)] (vj h (fun x_=>bA [(4,vB x_.2)] [(20,E.cells [vI x_.1])] [20]) (fun j1 h=> ?_) ?_))
 ·
  obtain⟨x2,hx2,h⟩:=bd h
  refine aT h (fun c1 h=> ?_) (fun c1 h=> ?_)
  ·exact rk hC ([oV (bH G hx2)]++rF 5 c1++sF 5) [4,6,7,8,9,10,11,12,13,14,15,16,17,18,19] [(4,vB false)] [] [] (lE h)
  ·obtain⟨x3,hx3,h⟩:=bd h
   refine aT h (fun c2 h=> ?_) (fun c2 h=> ?_)
   ·exact rk hC ([oV (bH G hx2)]++rT 4 c1++[oV (jV G hx3),oT c1]++rF 5 c2) [4,6,7,8,9,10,11,12,13,14,15,16,17,18,19] [(4,vB false)] [] [] (lE h)
   ·obtain⟨x4,hx4,h⟩:=bd h
    exact rk hC ([oV (bH G hx2)]++rT 4 c1++[oV (jV G hx3),oT c1]++rT 4 c2++[oC [20] [] (G8 G n s.value depth 1 0 hx4),oT c2]) [4,6,7,8,9,10,11,12,13,14,15,16,17,18,19] [(4,vB x4.1)] [(20,sc [vI x4.2])] [(20,true)] (lE h)
 ·rintro⟨x5,x6⟩ h
  obtain rfl:=so h
  exact qr eR
theorem mR(G:GS)(n:Nat)(s:Stmt)(c0__a1:Part){r:Bool}(h:bU n s c0__a1=some r):PQ G 39 [V.agg (hS s),V.tp (oB c0__a1)] (vB r):=by
 unfold bU at h
 refine pq aQ Tryz.func39 rfl fun w X hC=> ?_
 refine rq hC [.z (.b (true))] [2,3] [(2,V.tp (pY s))] [] [] ?_
 obtain⟨x1,hx1,h⟩:=bd h
 obtain rfl:=so h
 exact rq hC [oN aC c0__a1.nest,oV (y8 G hx1)] (fr 3 7) [(3,vB (!x1))] [] [] (qr eR)
theorem y6(G:GS)(n:Nat)(n_a0:Int){r:Bool}(h:gE n n_a0=some r):PQ G 67 [vI n_a0] (vB r):=by
 unfold gE at h
 refine pq aQ Tryz.func67 rfl fun w X hC=> ?_
 refine rq hC [] [2] [] [] [] ?_
 obtain⟨x1,hx1,h⟩:=bd h
 obtain rfl:=so h
 exact rq hC [oV (bH G hx1)] (fr 2 4) [(2,vB (!x1))] [] [] (qr eR)
theorem O7{point}{r}(h:mH n point=some r):PQ G 41 [vM rI point] (vB r):=by
 unfold mH at h
 refine pq aQ Tryz.func41 rfl fun w X hC=> ?_
 refine rq hC [] [2] [] [] [] (vj h (fun x_=>bA [(2,vB x_)] [] []) (fun j1 h=> ?_) (fun x3 h=> ?_))
 ·
  refine aT h (fun c1 h=> ?_) (fun c1 h=> ?_)
  ·exact rk hC ([oN rI point]++rF 4 c1) (fr 2 9) [(2,vB false)] [] [] (lE h)
  ·obtain⟨x2,hx2,h⟩:=bd h
   exact rk hC [oN rI point,oT c1,oT c1,oV (b6 G n point 67 (fun q0=>gE n q0) (fun q0 r h=>y6 G n q0 h) hx2),oT c1,oT c1] (fr 2 9) [(2,vB (!x2))] [] [] (lE h)
 ·obtain rfl:=so h
  exact qr eR
theorem yL{a}{r}(h:jS n a=some r):PQ G 104 [V.agg [vS a.name,vM rI a.dims]] (vI r):=by
 unfold jS at h
 refine pq aQ Tryz.func104 rfl fun w X hC=> ?_
 refine rq hC [.z (.b (true))] [1,2] [(1,V.tp [T.str a.name,T.sl (List.map rI a.dims)])] [] [] (rq hC [] [3] [(3,vI 1)] [] [] (qs (rq hC [oN rI a.dims] (fr 6 4) [(7,vM rI a.dims),(8,vI (a.dims.length:Int)),(9,vI 0)] [] [] (qb (jH h (fun x_=>bA [(3,vI x_.1),(7,vM rI a.dims),(8,vI (a.dims.length:Int)),(9,vI x_.2)] [] []) lS ?_)))))
 rintro again3 ⟨x1,x2⟩ h
 refine rq hC [] [10] [(10,vB (decide (x2<(a.dims.length:Int))))] [] [] (qs (aS h (fun c1 h=> ?_) (fun c1 h=> ?_)))
 ·refine qk (qs (qb ?_))
  obtain⟨x4,hx4,h⟩:=bd h
  exact rq hC [oR rI hx4] [5,11,12] [(5,vI x4)] [] [] (rk hC [] [3,13,14,15] [(3,vI (wr (x1*x4)))] [] [] (rk hC [] [9,16] [(9,vI (wr (x2+1)))] [] [] (lE h)))
 ·obtain rfl:=so h
  exact dE (rq hC [] [2,17] [(2,vI x1)] [] [] (qr eR))
theorem iQ{p}{a}{point}{r}(h:d4 n p a point=some r):PQ G 68 [V.agg (dT p),V.agg (dV a),vM rI point] (vI r):=by
 unfold d4 at h
 refine pq aQ Tryz.func68 rfl fun w X hC=> ?_
 refine rq hC [.z (.b (true)),.z (.b (true))] [3,4,6] [(3,V.tp (cL p)),(4,V.tp (dU a))] [] [] (rq hC [] [7] [(7,vI 0)] [] [] (qs (rq hC [oN aL p.arrays] (fr 14 4) [(15,vM aL p.arrays),(16,vI (p.arrays.length:Int)),(17,vI 0)] [] [] (qb (jH h (fun x_=>bA [(2,vM rI point),(4,V.tp (dU a)),(7,vI x_.1),(15,vM aL p.arrays),(16,vI (p.arrays.length:Int)),(17,vI x_.2)] [] []) lS ?_)))))
 rintro again3 ⟨x1,x2⟩ h
 refine rq hC [] [18] [(18,vB (decide (x2<(p.arrays.length:Int))))] [] [] (qs (aS h (fun c1 h=> ?_) (fun c1 h=> ?_)))
 ·refine qk (qs (qb ?_))
  obtain⟨x4,hx4,h⟩:=bd h
  refine rq hC [oR aL hx4,.z (.nat 20)] [9,19,20] [(9,V.ref 20 0)] [(20,sc [vS x4.name,vM rI x4.dims])] [(20,true)] (qs (rq hC [] (fr 21 5) [(25,vB (!decide (x4.name=a.array)))] [] [] (aS h (fun c2 h=> ?_) (fun c2 h=> ?_))))
  ·obtain⟨x5,hx5,h⟩:=bd h
   exact rq hC [oV (yL G hx5)] [7,26,27,28,29] [(7,vI (wr (x1+x5)))] [] [] (dE (rk hC [] [17,70] [(17,vI (wr (x2+1)))] [] [] (lE h)))
  ·refine qk (qs (rq hC [oN aB a.subs,oN rI x4.dims] (fr 30 7) [(36,vB (!decide ((a.subs.length:Int)=(x4.dims.length:Int))))] [] [] (aS h (fun c3 h=> ?_) (fun c3 h=> ?_))))
   ·obtain rfl:=so h
    exact rq hC [] [6] [(6,vI (-1))] [] [] (qr eR)
   ·refine qk (rq hC [] [10] [(10,vI 0)] [] [] (qs (rq hC [oN aB a.subs] (fr 37 4) [(38,vM aB a.subs),(39,vI (a.subs.length:Int)),(40,vI 0)] [] [] (qb (jH h (fun x_=>bA [(2,vM rI point),(7,vI x1),(9,V.ref 20 0),(10,vI x_.1),(38,vM aB a.subs),(39,vI (a.subs.length:Int)),(40,vI x_.2)] [(20,E.cells [vS x4.name,vM rI x4.dims])] [20]) lS ?_)))))
    rintro again8 ⟨x6,x7⟩ h
    refine rq hC [] [41] [(41,vB (decide (x7<(a.subs.length:Int))))] [] [] (qs (aS h (fun c4 h=> ?_) (fun c4 h=> ?_)))
    ·refine qk (qs (qb ?_))
     obtain⟨x9,hx9,h⟩:=bd h
     refine rq hC [oR aB hx9,.z (.nat 21)] [11,12,42,43,44] [(11,vI x7),(12,V.ref 21 0)] [(21,some (E.cells (bC x9)))] [(21,true)] ?_
     obtain⟨x10,hx10,h⟩:=bd h
     refine rq hC [oV (eN G hx10)] [13,45,46,47] [(13,vI x10)] [] [] (qs ?_)
     obtain⟨x11,hx11,x12,hx12,h⟩:=d7 h
     refine rq hC [oR rI hx11,oV (bH G hx12)] (fr 48 9) [(56,vB (!x12))] [] [] (aS h (fun c5 h=> ?_) (fun c5 h=> ?_))
     ·obtain rfl:=so h
      exact rq hC [] [6] [(6,vI (-1))] [] [] (qr eR)
     ·exact qk (rk hC [oR rI hx11] [10,57,58,59,60,61,62,63,64,65] [(10,vI (wr ((wr (x6*x11))+x10)))] [] [] (rk hC [] [40,66] [(40,vI (wr (x7+1)))] [] [] (lE h)))
    ·obtain rfl:=so h
     exact dE (rq hC [] [6,67,68,69] [(6,vI (wr (x1+x6)))] [] [] (qr eR))
 ·obtain rfl:=so h
  exact dE (rq hC [] [6] [(6,vI (-1))] [] [] (qr eR))
theorem aAS(G:GS): ∀(n:Nat) (e:Expr) {r:(List Access)} (h:i_reads n e=some r),VQ G 70 [] [V.agg (fV e)] (ms 0 1 2 aU r) [ar 62 1 2 aU r]:=by
 intro n
 induction n with
 |zero=>intro e r h;rw [i_reads.eq_def] at h;cases h
 |succ n ih=>
  intro e r h
  rw [i_reads.eq_def] at h;dsimp only at h
  refine vq aQ Tryz.func70 rfl fun w X β0 hC hg=> ?_
  refine rq hC [.z (.b (true))] [1,2] [(1,V.tp (hA e))] [] [] (qs (rq hC [] [6,7,8] [(8,vB (decide (e.kind=3)))] [] [] (aS h (fun c1 h=> ?_) (fun c1 h=> ?_))))
  ·obtain rfl:=so h
   exact rq hC [.z (.int 1),.z (.nat 20)] [2,9,10,11] [(2,ms 20 1 2 aU [e.read])] [(20,some (ar 62 1 2 aU [e.read]))] [(20,true)] (qw (lk hC [.ren 2 20 0] [2] [(2,ms 0 1 2 aU [e.read])] [(0,some (ar 62 1 2 aU [e.read])),(20,none)] [(0,true)]) (qr eW))
  ·refine qk (rq hC [] [3] [(3,V.t T.nilS)] [] [] (qs (rq hC [oN aM e.kids] (fr 12 4) [(13,vM aM e.kids),(14,vI (e.kids.length:Int)),(15,vI 0)] [] [] (qb (qw (lk hC [.grow 3 20 62] [3] [(3,ms 20 1 2 aU [])] [(20,some (ar 62 1 2 aU []))] [(20,true)]) ?_)))))
   refine bJ (γ:=Nat) h (fun x_ g_=>bA [(3,ms 20 g_ 2 aU x_.1),(13,vM aM e.kids),(14,vI (e.kids.length:Int)),(15,vI x_.2)] [(20,ar 62 g_ 2 aU x_.1)] [20]) 1 (lS) ?_
   rintro again4 ⟨x1,x2⟩ g3 h
   refine rq hC [] [16] [(16,vB (decide (x2<(e.kids.length:Int))))] [] [] (qs (aS h (fun c2 h=> ?_) (fun c2 h=> ?_)))
   ·refine qk (qs (qb ?_))
    obtain⟨x5,hx5,h⟩:=bd h
    refine rq hC [.z (.row (fA x5)),.z (.nat 21),oQ (iU aM hx5 (dY x5))] [5,17,18] [(5,V.ref 21 0)] [(21,some (E.cells (fV x5)))] [(21,true)] ?_
    obtain⟨x6,hx6,x7,hx7,h⟩:=d7 h
    exact rk hC [oC [] [22] (ih x5 hx6),.z (.at 2),.z (.fz 22 [21] []),oA (aO aU hx7),oQ (b8 (r:=aU) 2 lI x1),oQ (b8 (r:=aU) 2 lI x6)] [3,19,20,21,22] [(3,ms 20 (g3+1) 2 aU x7)] [(22,none),(20,some (ar 62 (g3+1) 2 aU x7))] [(22,true)] (rk hC [] [15,23] [(15,vI (wr (x2+1)))] [] [] ⟨(x7,wr (x2+1)),(g3+1),h,lS⟩)
   ·obtain rfl:=so h
    exact dE (rq hC [] [2,24] [(2,ms 20 g3 2 aU x1)] [] [] (qw (lk hC [.ren 2 20 0] [2] [(2,ms 0 1 2 aU x1)] [(0,some (ar 62 1 2 aU x1)),(20,none)] [(0,true)]) (qr eW)))
theorem pE(G:GS)(n:Nat)(a:Access)(c0__a1:Prog)(c1__a2:List Int){r:Bool}(h:cJ n a c0__a1 c1__a2=some r):PQ G 71 [V.agg (dV a),V.tp (cL c0__a1),V.tp [T.sl (List.map rI c1__a2)]] (vB r):=by
 unfold cJ at h
 refine pq aQ Tryz.func71 rfl fun w X hC=> ?_
 refine rq hC [.z (.b (true))] [3,4] [(3,V.tp (dU a))] [] [] ?_
 obtain⟨x1,hx1,h⟩:=bd h
 obtain rfl:=so h
 exact rq hC [oV (iQ G hx1)] (fr 4 6) [(4,vB (decide (x1<0)))] [] [] (qr eR)
theorem mQ(G:GS)(n:Nat)(s:List Access)(fF:FuncId)(fC0:List T)(fC1:List T)(f:Access→Option Bool)(hf: ∀(q0:Access) r,f q0=some r→PQ G fF [V.agg (dV q0),V.tp fC0,V.tp fC1] (vB r)){r:Int}(h:eB n s f=some r):PQ G 106 [vM aU s,V.fn fF [V.tp fC0,V.tp fC1]] (vI r):=by
 unfold eB at h
 refine pq aQ Tryz.func106 rfl fun w X hC=> ?_
 refine rq hC [] [4] [] [] [] (qs (rq hC [oN aU s] [6,7,8] [(7,vI (s.length:Int)),(8,vI 0)] [] [] (qb (jH h (fun x_=>bA [(0,vM aU s),(1,V.fn fF [V.tp fC0,V.tp fC1]),(7,vI (s.length:Int)),(8,vI x_)] [] []) lS ?_))))
 rintro again2 x1 h
 refine rq hC [] [9] [(9,vB (decide (x1<(s.length:Int))))] [] [] (qs (aS h (fun c1 h=> ?_) (fun c1 h=> ?_)))
 ·refine qk (qs (qb (rq hC [] [5,10] [(5,vI x1)] [] [] ?_)))
  obtain⟨x3,hx3,x4,hx4,h⟩:=d7 h
  refine rq hC [oR aU hx3,oV (hf x3 _ hx4)] (fr 11 6) [(16,vB x4)] [] [] (aS h (fun c2 h=> ?_) (fun c2 h=> ?_))
  ·obtain rfl:=so h
   exact rq hC [] [4,17] [(4,vI x1)] [] [] (qr eR)
  ·exact qk (rk hC [] [8,18] [(8,vI (wr (x1+1)))] [] [] (lE h))
 ·obtain rfl:=so h
  exact dE (rq hC [] [4] [(4,vI (-1))] [] [] (qr eR))
theorem lF(G:GS)(n:Nat)(s:List Access)(fF:FuncId)(fC0:List T)(fC1:List T)(f:Access→Option Bool)(hf: ∀(q0:Access) r,f q0=some r→PQ G fF [V.agg (dV q0),V.tp fC0,V.tp fC1] (vB r)){r:Bool}(h:cF n s f=some r):PQ G 69 [vM aU s,V.fn fF [V.tp fC0,V.tp fC1]] (vB r):=by
 unfold cF at h
 refine pq aQ Tryz.func69 rfl fun w X hC=> ?_
 refine rq hC [] [4] [] [] [] ?_
 obtain⟨x1,hx1,h⟩:=bd h
 obtain rfl:=so h
 exact rq hC [oV (mQ G n s fF fC0 fC1 f hf hx1)] (fr 4 5) [(4,vB (decide ((0:Int)≤x1)))] [] [] (qr eR)
theorem qY{p}{s}{point}{r}(h:dZ n p s point=some r):PQ G 42 [V.agg (dT p),V.agg (hS s),vM rI point] (vB r):=by
 unfold dZ at h
 refine pq aQ Tryz.func42 rfl fun w X hC=> ?_
 refine rq hC [.z (.b (true)),.z (.b (true)),.z (.b (true))] (fr 3 4) [(3,V.tp (cL p)),(4,V.tp (pY s)),(5,V.tp [T.sl (List.map rI point)])] [] [] (vj h (fun x_=>bA [(6,vB x_)] [] []) (fun j1 h=> ?_) (fun x5 h=> ?_))
 ·
  obtain⟨x2,hx2,h⟩:=bd h
  refine aT h (fun c1 h=> ?_) (fun c1 h=> ?_)
  ·exact rk hC ([oV (iQ G hx2)]++rF 7 c1) (fr 6 15) [(6,vB false)] [] [] (lE h)
  ·obtain⟨x3,hx3,x4,hx4,h⟩:=d7 h
   exact rk hC ([oV (iQ G hx2)]++rT 3 c1++[oC [] [20] (aAS G n s.value hx3),oT c1,oT c1,.z (.b (true)),oV (lF G n x3 71 (cL p) [T.sl (List.map rI point)] (fun q0=>cJ n q0 p point) (fun q0 r h=>pE G n q0 p point h) hx4),oT c1,oT c1]) (fr 6 15) [(6,vB (!x4))] [(20,some (ar 62 1 2 aU x3))] [(20,true)] (lE h)
 ·obtain rfl:=so h
  exact qr eR
theorem n6(G:GS)(n:Nat)(s:List Stmt)(fF:FuncId)(fC0:List T)(f:Stmt→Option Bool)(hf: ∀(q0:Stmt) r,f q0=some r→PQ G fF [V.agg (hS q0),V.tp fC0] (vB r)){r:Int}(h:fN n s f=some r):PQ G 64 [vM aR s,V.fn fF [V.tp fC0]] (vI r):=by
 unfold fN at h
 refine pq aQ Tryz.func64 rfl fun w X hC=> ?_
 refine rq hC [] [4] [] [] [] (qs (rq hC [oN aR s] [6,7,8] [(7,vI (s.length:Int)),(8,vI 0)] [] [] (qb (jH h (fun x_=>bA [(0,vM aR s),(1,V.fn fF [V.tp fC0]),(7,vI (s.length:Int)),(8,vI x_)] [] []) lS ?_))))
 rintro again2 x1 h
 refine rq hC [] [9] [(9,vB (decide (x1<(s.length:Int))))] [] [] (qs (aS h (fun c1 h=> ?_) (fun c1 h=> ?_)))
 ·refine qk (qs (qb (rq hC [] [5,10] [(5,vI x1)] [] [] ?_)))
  obtain⟨x3,hx3,x4,hx4,h⟩:=d7 h
  refine rq hC [oR aR hx3,oV (hf x3 _ hx4)] (fr 11 6) [(16,vB x4)] [] [] (aS h (fun c2 h=> ?_) (fun c2 h=> ?_))
  ·obtain rfl:=so h
   exact rq hC [] [4,17] [(4,vI x1)] [] [] (qr eR)
  ·exact qk (rk hC [] [8,18] [(8,vI (wr (x1+1)))] [] [] (lE h))
 ·obtain rfl:=so h
  exact dE (rq hC [] [4] [(4,vI (-1))] [] [] (qr eR))
theorem lV(G:GS)(n:Nat)(s:List Stmt)(fF:FuncId)(fC0:List T)(f:Stmt→Option Bool)(hf: ∀(q0:Stmt) r,f q0=some r→PQ G fF [V.agg (hS q0),V.tp fC0] (vB r)){r:Bool}(h:cX n s f=some r):PQ G 38 [vM aR s,V.fn fF [V.tp fC0]] (vB r):=by
 unfold cX at h
 refine pq aQ Tryz.func38 rfl fun w X hC=> ?_
 refine rq hC [] [4] [] [] [] ?_
 obtain⟨x1,hx1,h⟩:=bd h
 obtain rfl:=so h
 exact rq hC [oV (n6 G n s fF fC0 f hf hx1)] (fr 4 5) [(4,vB (decide ((0:Int)≤x1)))] [] [] (qr eR)
theorem n7{p}{r}(h:cY n p=some r):VQ G 16 [] [V.agg (dT p)] (V.tup [ms 0 1 3 dH r.1,vB r.2]) [ar 92 1 3 dH r.1]:=by
 unfold cY at h
 refine vq aQ Tryz.func16 rfl fun w X β0 hC hg=> ?_
 refine rq hC [.z (.b (true))] [1,2,3] [(1,V.tp (cL p))] [] [] (qs (vj h (fun x_=>bA [(1,V.tp (cL p)),(22,vB x_)] [] []) (fun j1 h=> ?_) (fun x3 h=> ?_)))
 ·
  obtain⟨x2,hx2,h⟩:=bd h
  refine aT h (fun c1 h=> ?_) (fun c1 h=> ?_)
  ·exact rk hC ([oV (sJ G hx2)]++rF 3 c1++[oN aE p.parts,oF c1,oF c1]) (fr 13 10) [(22,vB (decide ((4:Int)<(p.parts.length:Int))))] [] [] (lE h)
  ·exact rk hC ([oV (sJ G hx2)]++rT 5 c1) (fr 13 10) [(22,vB true)] [] [] (lE h)
 ·refine aS h (fun c2 h=> ?_) (fun c2 h=> ?_)
  ·obtain rfl:=so h
   exact rq hC [] [2,3] [(2,V.t T.nilS),(3,vB false)] [] [] (qw (lk hC [.grow 2 0 92] [2] [(2,ms 0 1 3 dH [])] [(0,some (ar 92 1 3 dH []))] [(0,true)]) (qr eW))
  ·refine qk (rq hC [] [4] [(4,V.t T.nilS)] [] [] (qs (rq hC [oN aE p.parts] (fr 23 4) [(24,vM aE p.parts),(25,vI (p.parts.length:Int)),(26,vI 0)] [] [] (qb (qw (lk hC [.grow 4 20 92] [4] [(4,ms 20 1 3 dH [])] [(20,some (ar 92 1 3 dH []))] [(20,true)]) ?_)))))
   refine bJ (γ:=Nat) h (fun x_ g_=>bA [(1,V.tp (cL p)),(4,ms 20 g_ 3 dH x_.1),(24,vM aE p.parts),(25,vI (p.parts.length:Int)),(26,vI x_.2)] [(20,ar 92 g_ 3 dH x_.1)] [20]) 1 (lS) ?_
   rintro again7 ⟨x4,x5⟩ g6 h
   refine rq hC [] [27] [(27,vB (decide (x5<(p.parts.length:Int))))] [] [] (qs (aS h (fun c3 h=> ?_) (fun c3 h=> ?_)))
   ·refine qk (qs (qb ?_))
    obtain⟨x8,hx8,h⟩:=bd h
    refine rq hC [oR aE hx8,.z (.nat 21),.z (.at 0),.z (.fp 21 [6])] [5,6,28,29,30] [(5,vI x5),(6,V.tp (oB x8))] [(21,none)] [(21,true)] ?_
    obtain⟨x9,hx9,h⟩:=bd h
    refine rq hC [oC [] [22] (yK G hx9)] [7,8,31,32,33,34,35,36] [(7,ms 22 1 1 (rL rI) x9.1),(8,vB x9.2)] [(22,some (ar 56 1 1 (rL rI) x9.1))] [(22,true)] (qs (vj h (fun x_=>bA [(1,V.tp (cL p)),(4,ms 20 g6 3 dH x4),(5,vI x5),(6,V.tp (oB x8)),(7,ms 22 1 1 (rL rI) x9.1),(24,vM aE p.parts),(25,vI (p.parts.length:Int)),(26,vI x5),(51,vB x_)] [(20,ar 92 g6 3 dH x4),(22,ar 56 1 1 (rL rI) x9.1)] [20,21,22]) (fun j10 h=> ?_) (fun x13 h=> ?_)))
    ·
     refine aT h (fun c4 h=> ?_) (fun c4 h=> ?_)
     ·obtain⟨x11,hx11,h⟩:=bd h
      refine aT h (fun c5 h=> ?_) (fun c5 h=> ?_)
      ·obtain⟨x12,hx12,h⟩:=bd h
       exact rk hC (rF 3 c4++[oN aR x8.body,oF c4,oV (bH G hx11),oF c4,oF c4]++rF 4 c5++[oV (lV G n x8.body 39 (oB x8) (fun q0=>bU n q0 x8) (fun q0 r h=>mR G n q0 x8 h) hx12),oF c5]) (fr 37 15) [(51,vB x12)] [] [] (lE h)
      ·exact rk hC (rF 3 c4++[oN aR x8.body,oF c4,oV (bH G hx11),oF c4,oF c4]++rT 5 c5) (fr 37 15) [(51,vB true)] [] [] (lE h)
     ·exact rk hC (rT 6 c4++sT 5) (fr 37 15) [(51,vB true)] [] [] (lE h)
    ·refine aS h (fun c6 h=> ?_) (fun c6 h=> ?_)
     ·obtain rfl:=so h
      exact rq hC [] [2,3] [(2,V.t T.nilS),(3,vB false)] [] [] (qw (lk hC [.grow 2 0 92] [2] [(2,ms 0 1 3 dH [])] [(0,some (ar 92 1 3 dH []))] [(0,true)]) (qr eW))
     ·refine qk (rq hC [oN (rL rI) x9.1] [52,53,54] [(52,ms 22 1 1 (rL rI) x9.1),(53,vI (x9.1.length:Int)),(54,vI 0)] [] [] (qb (bJ (γ:=Nat) h (fun x_ g_=>bA [(1,V.tp (cL p)),(4,ms 20 g_ 3 dH x_.1),(5,vI x5),(6,V.tp (oB x8)),(24,vM aE p.parts),(25,vI (p.parts.length:Int)),(26,vI x5),(52,ms 22 1 1 (rL rI) x9.1),(53,vI (x9.1.length:Int)),(54,vI x_.2)] [(20,ar 92 g_ 3 dH x_.1),(22,ar 56 1 1 (rL rI) x9.1)] [20,21,22]) g6 (lS) ?_)))
      rintro again17 ⟨x14,x15⟩ g16 h
      refine rq hC [] [55] [(55,vB (decide (x15<(x9.1.length:Int))))] [] [] (qs (aS h (fun c7 h=> ?_) (fun c7 h=> ?_)))
      ·refine qk (qs (qb ?_))
       obtain⟨x18,hx18,h⟩:=bd h
       refine rq hC [oQ (pQ (rL rI) hx18),oX (rL rI) hx18] [10,56,57] [(10,vM rI x18)] [] [] (qs ?_)
       obtain⟨x19,hx19,h⟩:=bd h
       refine rq hC [oV (O7 G hx19)] [58,59,60] [(60,vB (!x19))] [] [] (aS h (fun c8 h=> ?_) (fun c8 h=> ?_))
       ·obtain rfl:=so h
        exact rq hC [] [2,3] [(2,V.t T.nilS),(3,vB false)] [] [] (qw (lk hC [.grow 2 0 92] [2] [(2,ms 0 1 3 dH [])] [(0,some (ar 92 1 3 dH []))] [(0,true)]) (qr eW))
       ·refine qk (rq hC [oN aR x8.body] (fr 61 4) [(62,vM aR x8.body),(63,vI (x8.body.length:Int)),(64,vI 0)] [] [] (qb (bJ (γ:=Nat) h (fun x_ g_=>bA [(1,V.tp (cL p)),(4,ms 20 g_ 3 dH x_.1),(5,vI x5),(6,V.tp (oB x8)),(10,vM rI x18),(24,vM aE p.parts),(25,vI (p.parts.length:Int)),(26,vI x5),(52,ms 22 1 1 (rL rI) x9.1),(53,vI (x9.1.length:Int)),(54,vI x15),(62,vM aR x8.body),(63,vI (x8.body.length:Int)),(64,vI x_.2)] [(20,ar 92 g_ 3 dH x_.1),(22,ar 56 1 1 (rL rI) x9.1)] [20,21,22]) g16 (lS) ?_)))
        rintro again23 ⟨x20,x21⟩ g22 h
        refine rq hC [] [65] [(65,vB (decide (x21<(x8.body.length:Int))))] [] [] (qs (aS h (fun c9 h=> ?_) (fun c9 h=> ?_)))
        ·refine qk (qs (qb ?_))
         obtain⟨x24,hx24,h⟩:=bd h
         refine rq hC [oR aR hx24,.z (.nat 23)] [11,12,66,67,68] [(11,vI x21),(12,V.ref 23 0)] [(23,some (E.cells (hS x24)))] [(23,true)] (qs ?_)
         obtain⟨x25,hx25,h⟩:=bd h
         refine rq hC [oV (qY G hx25)] (fr 69 5) [(73,vB (!x25))] [] [] (aS h (fun c10 h=> ?_) (fun c10 h=> ?_))
         ·obtain rfl:=so h
          exact rq hC [] [2,3] [(2,V.t T.nilS),(3,vB false)] [] [] (qw (lk hC [.grow 2 0 92] [2] [(2,ms 0 1 3 dH [])] [(0,some (ar 92 1 3 dH []))] [(0,true)]) (qr eW))
         ·refine qk ?_
          obtain⟨x26,hx26,x27,hx27,h⟩:=d7 h
          exact rk hC [oC [] [24] (G.clone x18 hx26),.z (.at 4),.z (.fz 24 [78] []),.z (.int 0),oA (aO dH hx27),oQ (b8 (r:=dH) 3 zK x20),oQ (b8 (r:=dH) 3 zK [(⟨x5,x21,x26⟩:Inst)])] [4,74,75,76,77,78,79,80,81] [(4,ms 20 (g22+1) 3 dH x27)] [(24,none),(20,some (ar 92 (g22+1) 3 dH x27))] [(24,true)] (rk hC [] [64,82] [(64,vI (wr (x21+1)))] [] [] ⟨(x27,wr (x21+1)),(g22+1),h,lS⟩)
        ·exact dE (rk hC [] [54,83] [(54,vI (wr (x15+1)))] [] [] ⟨(x20,wr (x15+1)),g22,h,lS⟩)
      ·exact dE (rk hC [] [26,84] [(26,vI (wr (x5+1)))] [] [] ⟨(x14,wr (x5+1)),g16,h,lS⟩)
   ·obtain rfl:=so h
    exact dE (rq hC [oN dH x4] [2,3,85,86,87,88] [(2,ms 20 g6 3 dH x4),(3,vB (decide ((x4.length:Int)≤120)))] [] [] (qw (lk hC [.ren 2 20 0] [2] [(2,ms 0 1 3 dH x4)] [(0,some (ar 92 1 3 dH x4)),(20,none)] [(0,true)]) (qr eW)))
theorem mS{p}{r}(h:d5 n p=some r):PQ G 9 [V.agg (dT p)] (vB r):=by
 unfold d5 at h
 refine pq aQ Tryz.func9 rfl fun w X hC=> ?_
 refine rq hC [.z (.b (true))] [1,2] [(1,V.tp (cL p))] [] [] ?_
 obtain⟨x1,hx1,h⟩:=bd h
 obtain rfl:=so h
 exact rq hC [oC [] [20] (n7 G hx1)] (fr 3 7) [(4,vB x1.2)] [(20,some (ar 92 1 3 dH x1.1))] [(20,true)] (rq hC [] [2,10] [(2,vB x1.2)] [] [] (qr eR))
theorem qZ{p}{r}(h:d6 n p=some r):VQ G 5 [] [V.agg (dT p)] (ms 0 1 4 aI r) [ar 33 1 4 aI r]:=by
 unfold d6 at h
 refine vq aQ Tryz.func5 rfl fun w X β0 hC hg=> ?_
 refine rq hC [.z (.b (true))] [1,2] [(1,V.tp (cL p))] [] [] (qs ?_)
 obtain⟨x1,hx1,h⟩:=bd h
 refine rq hC [oV (mS G hx1)] [10,11,12] [(12,vB (!x1))] [] [] (aS h (fun c1 h=> ?_) (fun c1 h=> ?_))
 ·obtain rfl:=so h
  exact rq hC [] [2] [(2,V.t T.nilS)] [] [] (qw (lk hC [.grow 2 0 33] [2] [(2,ms 0 1 4 aI [])] [(0,some (ar 33 1 4 aI []))] [(0,true)]) (qr eW))
 ·refine qk (rq hC [] [3] [(3,V.t T.nilS)] [] [] (qs (rq hC [oN aE p.parts] (fr 13 4) [(14,vM aE p.parts),(15,vI (p.parts.length:Int)),(16,vI 0)] [] [] (qb (qw (lk hC [.grow 3 20 33] [3] [(3,ms 20 1 4 aI [])] [(20,some (ar 33 1 4 aI []))] [(20,true)]) ?_)))))
  refine bJ (γ:=Nat) h (fun x_ g_=>bA [(1,V.tp (cL p)),(3,ms 20 g_ 4 aI x_.1),(14,vM aE p.parts),(15,vI (p.parts.length:Int)),(16,vI x_.2)] [(20,ar 33 g_ 4 aI x_.1)] [20]) 1 (lS) ?_
  rintro again5 ⟨x2,x3⟩ g4 h
  refine rq hC [] [17] [(17,vB (decide (x3<(p.parts.length:Int))))] [] [] (qs (aS h (fun c2 h=> ?_) (fun c2 h=> ?_)))
  ·refine qk (qs (qb ?_))
   obtain⟨x6,hx6,h⟩:=bd h
   refine rq hC [oR aE hx6,.z (.nat 21)] [4,5,18,19,20] [(4,vI x3),(5,V.ref 21 0)] [(21,some (E.cells (P0 x6)))] [(21,true)] (qs (rq hC [] [6] [(6,vI 0)] [] [] (qb (bJ (γ:=Nat) h (fun x_ g_=>bA [(1,V.tp (cL p)),(3,ms 20 g_ 4 aI x_.1),(4,vI x3),(5,V.ref 21 0),(6,vI x_.2),(14,vM aE p.parts),(15,vI (p.parts.length:Int)),(16,vI x3)] [(20,ar 33 g_ 4 aI x_.1),(21,E.cells (P0 x6))] [20,21]) g4 (lS) ?_))))
   rintro again10 ⟨x7,x8⟩ g9 h
   refine qs (rq hC [oN aC x6.nest] (fr 21 6) [(26,vB (decide (wr (x8+1)<(x6.nest.length:Int))))] [] [] (aS h (fun c3 h=> ?_) (fun c3 h=> ?_)))
   ·refine qk (qs (qb ?_))
    obtain⟨x11,hx11,h⟩:=bd h
    exact rk hC [.z (.int 0),oA (aO aI hx11),oQ (b8 (r:=aI) 4 bM x7),oQ (b8 (r:=aI) 4 bM [(⟨1,x3,x8,0⟩:Step)])] [3,29,30,31,32,33,34] [(3,ms 20 (g9+1) 4 aI x11)] [(20,some (ar 33 (g9+1) 4 aI x11))] [] (rk hC [] [6,27,28] [(6,vI (wr (x8+1)))] [] [] ⟨(x11,wr (x8+1)),(g9+1),h,lS⟩)
   ·refine dE (rq hC [oN aC x6.nest] (fr 35 4) [(37,vI (x6.nest.length:Int)),(38,vI 0)] [] [] (qb (bJ (γ:=Nat) h (fun x_ g_=>bA [(1,V.tp (cL p)),(3,ms 20 g_ 4 aI x_.1),(4,vI x3),(14,vM aE p.parts),(15,vI (p.parts.length:Int)),(16,vI x3),(37,vI (x6.nest.length:Int)),(38,vI x_.2)] [(20,ar 33 g_ 4 aI x_.1),(21,E.cells (P0 x6))] [20,21]) g9 (lS) ?_)))
    rintro again15 ⟨x12,x13⟩ g14 h
    refine rq hC [] [39] [(39,vB (decide (x13<(x6.nest.length:Int))))] [] [] (qs (aS h (fun c4 h=> ?_) (fun c4 h=> ?_)))
    ·refine qk (qs (qb (rq hC [] [7,40] [(7,vI x13)] [] [] ?_)))
     obtain⟨x16,hx16,h⟩:=bd h
     exact rk hC [.z (.int 0),oA (aO aI hx16),oQ (b8 (r:=aI) 4 bM x12),oQ (b8 (r:=aI) 4 bM [(⟨2,x3,x13,0⟩:Step)])] [3,41,42,43,44,45,46] [(3,ms 20 (g14+1) 4 aI x16)] [(20,some (ar 33 (g14+1) 4 aI x16))] [] (rk hC [] [38,47] [(38,vI (wr (x13+1)))] [] [] ⟨(x16,wr (x13+1)),(g14+1),h,lS⟩)
    ·exact dE (rk hC [] [16,48] [(16,vI (wr (x3+1)))] [] [] ⟨(x12,wr (x3+1)),g14,h,lS⟩)
  ·refine dE (qs (rq hC [] [8] [(8,vI 0)] [] [] (qb (bJ (γ:=Nat) h (fun x_ g_=>bA [(1,V.tp (cL p)),(3,ms 20 g_ 4 aI x_.1),(8,vI x_.2)] [(20,ar 33 g_ 4 aI x_.1)] [20]) g4 (lS) ?_))))
   rintro again20 ⟨x17,x18⟩ g19 h
   refine qs (rq hC [oN aE p.parts] (fr 49 6) [(54,vB (decide (wr (x18+1)<(p.parts.length:Int))))] [] [] (aS h (fun c5 h=> ?_) (fun c5 h=> ?_)))
   ·refine qk (qs (qb ?_))
    obtain⟨x21,hx21,h⟩:=bd h
    exact rk hC [.z (.int 0),oA (aO aI hx21),oQ (b8 (r:=aI) 4 bM x17),oQ (b8 (r:=aI) 4 bM [(⟨6,x18,0,0⟩:Step),(⟨9,x18,0,0⟩:Step)])] [3,57,58,59,60,61,62,63] [(3,ms 20 (g19+1) 4 aI x21)] [(20,some (ar 33 (g19+1) 4 aI x21))] [] (rk hC [] [8,55,56] [(8,vI (wr (x18+1)))] [] [] ⟨(x21,wr (x18+1)),(g19+1),h,lS⟩)
   ·refine dE (qs (rq hC [oN aE p.parts] (fr 64 4) [(66,vI (p.parts.length:Int)),(67,vI 0)] [] [] (qb (bJ (γ:=Nat) h (fun x_ g_=>bA [(3,ms 20 g_ 4 aI x_.1),(66,vI (p.parts.length:Int)),(67,vI x_.2)] [(20,ar 33 g_ 4 aI x_.1)] [20]) g19 (lS) ?_))))
    rintro again25 ⟨x22,x23⟩ g24 h
    refine rq hC [] [68] [(68,vB (decide (x23<(p.parts.length:Int))))] [] [] (qs (aS h (fun c6 h=> ?_) (fun c6 h=> ?_)))
    ·refine qk (qs (qb (rq hC [] [9,69] [(9,vI x23)] [] [] ?_)))
     obtain⟨x26,hx26,h⟩:=bd h
     exact rk hC [.z (.int 0),oA (aO aI hx26),oQ (b8 (r:=aI) 4 bM x22),oQ (b8 (r:=aI) 4 bM [(⟨10,x23,0,0⟩:Step)])] [3,70,71,72,73,74] [(3,ms 20 (g24+1) 4 aI x26)] [(20,some (ar 33 (g24+1) 4 aI x26))] [] (rk hC [] [67,75] [(67,vI (wr (x23+1)))] [] [] ⟨(x26,wr (x23+1)),(g24+1),h,lS⟩)
    ·refine dE ?_
     obtain⟨x27,hx27,h⟩:=bd h
     obtain rfl:=so h
     exact rq hC [.z (.int 0),oA (aO aI hx27),oQ (b8 (r:=aI) 4 bM x22),oQ (b8 (r:=aI) 4 bM [(⟨11,0,0,0⟩:Step)])] [2,3,76,77,78,79] [(2,ms 20 (g24+1) 4 aI x27)] [(20,some (ar 33 (g24+1) 4 aI x27))] [] (qw (lk hC [.ren 2 20 0] [2] [(2,ms 0 1 4 aI x27)] [(0,some (ar 33 1 4 aI x27)),(20,none)] [(0,true)]) (qr eW))
theorem N3{a}{b}{r}(h:lZ n a b=some r):PQ G 6 [vM aI a,vM aI b] (vB r):=by
 unfold lZ at h
 refine pq aQ Tryz.func6 rfl fun w X hC=> ?_
 refine rq hC [] [4] [] [] [] (qs (rq hC [oN aI a,oN aI b] (fr 6 5) [(10,vB (!decide ((a.length:Int)=(b.length:Int))))] [] [] (aS h (fun c1 h=> ?_) (fun c1 h=> ?_))))
 ·obtain rfl:=so h
  exact rq hC [] [4] [(4,vB false)] [] [] (qr eR)
 ·refine qk (qs (rq hC [] [5] [(5,vI 0)] [] [] (qb (jH h (fun x_=>bA [(0,vM aI a),(1,vM aI b),(5,vI x_)] [] []) lS ?_))))
  rintro again2 x1 h
  refine qs (rq hC [oN aI a] (fr 11 4) [(14,vB (decide (x1<(a.length:Int))))] [] [] (aS h (fun c2 h=> ?_) (fun c2 h=> ?_)))
  ·refine qk (qs (qb (qs ?_)))
   obtain⟨x3,hx3,x4,hx4,h⟩:=d7 h
   refine dk hC bO [oR aI hx3,oR aI hx4,.z (.b (decide ([x3.kind,x3.part,x3.a,x3.b]=[x4.kind,x4.part,x4.a,x4.b]))),oQ aFI,oQ (Eq.refl (decide ([x3.kind,x3.part,x3.a,x3.b]=[x4.kind,x4.part,x4.a,x4.b])))] (fr 17 9) [(25,vB (!(decide ([x3.kind,x3.part,x3.a,x3.b]=[x4.kind,x4.part,x4.a,x4.b]))))] [] [] (aS h (fun c3 h=> ?_) (fun c3 h=> ?_))
   ·obtain rfl:=so h
    exact rq hC [] [4] [(4,vB false)] [] [] (qr eR)
   ·exact qk (rk hC [] [5,15,16] [(5,vI (wr (x1+1)))] [] [] (lE h))
  ·obtain rfl:=so h
   exact dE (rq hC [] [4] [(4,vB true)] [] [] (qr eR))
theorem qX{p}{r}(h:dX n p=some r):VQ G 7 [] [V.agg (dT p)] (ms 0 1 4 aI r) [ar 33 1 4 aI r]:=by
 unfold dX at h
 refine vq aQ Tryz.func7 rfl fun w X β0 hC hg=> ?_
 refine rq hC [.z (.b (true))] [1,2] [(1,V.tp (cL p))] [] [] (rq hC [.z (.nat 20)] [3,9] [(3,ms 20 1 4 aI [])] [(20,some (ar 33 1 4 aI []))] [(20,true)] (qs ?_))
 obtain⟨x1,hx1,h⟩:=bd h
 refine rq hC [oV (iP G hx1)] [10,11,12] [(12,vB (!x1))] [] [] (aS h (fun c1 h=> ?_) (fun c1 h=> ?_))
 ·obtain rfl:=so h
  exact rq hC [] [2,13] [(2,ms 20 1 4 aI [])] [] [] (qw (lk hC [.ren 2 20 0] [2] [(2,ms 0 1 4 aI [])] [(0,some (ar 33 1 4 aI [])),(20,none)] [(0,true)]) (qr eW))
 ·refine qk (qs (rq hC [] [4] [(4,vI 0)] [] [] (qb (bJ (γ:=Nat) h (fun x_ g_=>bA [(1,V.tp (cL p)),(3,ms 20 g_ 4 aI x_.1),(4,vI x_.2)] [(20,ar 33 g_ 4 aI x_.1)] [20]) 1 (lS) ?_))))
  rintro again5 ⟨x2,x3⟩ g4 h
  refine qs (rq hC [oN aE p.parts] (fr 14 5) [(18,vB (decide (x3<(p.parts.length:Int))))] [] [] (aS h (fun c2 h=> ?_) (fun c2 h=> ?_)))
  ·refine qk (qs (qb (qs (rq hC [] [5] [(5,vI 0)] [] [] (qb (bJ (γ:=Nat) h (fun x_ g_=>bA [(1,V.tp (cL p)),(3,ms 20 g_ 4 aI x_.1),(4,vI x3),(5,vI x_.2)] [(20,ar 33 g_ 4 aI x_.1)] [20]) g4 (lS) ?_))))))
   rintro again9 ⟨x6,x7⟩ g8 h
   refine qs ?_
   obtain⟨x10,hx10,h⟩:=bd h
   refine rq hC [oR aE hx10,oN aC x10.nest] (fr 21 10) [(30,vB (decide (wr (x7+1)<(x10.nest.length:Int))))] [] [] (aS h (fun c3 h=> ?_) (fun c3 h=> ?_))
   ·refine qk (qs (qb ?_))
    obtain⟨x11,hx11,h⟩:=bd h
    exact rk hC [.z (.int 0),oA (aO aI hx11),oQ (b8 (r:=aI) 4 bM x6),oQ (b8 (r:=aI) 4 bM [(⟨1,x3,x7,0⟩:Step)])] [3,33,34,35,36,37,38] [(3,ms 20 (g8+1) 4 aI x11)] [(20,some (ar 33 (g8+1) 4 aI x11))] [] (rk hC [] [5,31,32] [(5,vI (wr (x7+1)))] [] [] ⟨(x11,wr (x7+1)),(g8+1),h,lS⟩)
   ·refine dE (rq hC [] [6] [(6,vI 0)] [] [] (qb (bJ (γ:=Nat) h (fun x_ g_=>bA [(1,V.tp (cL p)),(3,ms 20 g_ 4 aI x_.1),(4,vI x3),(6,vI x_.2)] [(20,ar 33 g_ 4 aI x_.1)] [20]) g8 (lS) ?_)))
    rintro again15 ⟨x12,x13⟩ g14 h
    refine qs (rq hC [oR aE hx10,oN aC x10.nest] (fr 39 9) [(47,vB (decide (x13<(x10.nest.length:Int))))] [] [] (aS h (fun c4 h=> ?_) (fun c4 h=> ?_)))
    ·refine qk (qs (qb ?_))
     obtain⟨x16,hx16,h⟩:=bd h
     exact rk hC [.z (.int 0),oA (aO aI hx16),oQ (b8 (r:=aI) 4 bM x12),oQ (b8 (r:=aI) 4 bM [(⟨2,x3,x13,0⟩:Step)])] [3,50,51,52,53,54,55] [(3,ms 20 (g14+1) 4 aI x16)] [(20,some (ar 33 (g14+1) 4 aI x16))] [] (rk hC [] [6,48,49] [(6,vI (wr (x13+1)))] [] [] ⟨(x16,wr (x13+1)),(g14+1),h,lS⟩)
    ·exact dE (rk hC [] [4,19,20] [(4,vI (wr (x3+1)))] [] [] ⟨(x12,wr (x3+1)),g14,h,lS⟩)
  ·refine dE (qs (rq hC [] [7] [(7,vI 0)] [] [] (qb (bJ (γ:=Nat) h (fun x_ g_=>bA [(1,V.tp (cL p)),(3,ms 20 g_ 4 aI x_.1),(7,vI x_.2)] [(20,ar 33 g_ 4 aI x_.1)] [20]) g4 (lS) ?_))))
   rintro again20 ⟨x17,x18⟩ g19 h
   refine qs (rq hC [oN aE p.parts] (fr 56 6) [(61,vB (decide (wr (x18+1)<(p.parts.length:Int))))] [] [] (aS h (fun c5 h=> ?_) (fun c5 h=> ?_)))
   ·refine qk (qs (qb ?_))
    obtain⟨x21,hx21,h⟩:=bd h
    exact rk hC [.z (.int 0),oA (aO aI hx21),oQ (b8 (r:=aI) 4 bM x17),oQ (b8 (r:=aI) 4 bM [(⟨6,x18,0,0⟩:Step),(⟨9,x18,0,0⟩:Step)])] [3,64,65,66,67,68,69,70] [(3,ms 20 (g19+1) 4 aI x21)] [(20,some (ar 33 (g19+1) 4 aI x21))] [] (rk hC [] [7,62,63] [(7,vI (wr (x18+1)))] [] [] ⟨(x21,wr (x18+1)),(g19+1),h,lS⟩)
   ·refine dE (qs (rq hC [] [8] [(8,vI 0)] [] [] (qb (bJ (γ:=Nat) h (fun x_ g_=>bA [(1,V.tp (cL p)),(3,ms 20 g_ 4 aI x_.1),(8,vI x_.2)] [(20,ar 33 g_ 4 aI x_.1)] [20]) g19 (lS) ?_))))
    rintro again25 ⟨x22,x23⟩ g24 h
    refine qs (rq hC [oN aE p.parts] (fr 71 5) [(75,vB (decide (x23<(p.parts.length:Int))))] [] [] (aS h (fun c6 h=> ?_) (fun c6 h=> ?_)))
    ·refine qk (qs (qb ?_))
     obtain⟨x26,hx26,h⟩:=bd h
     exact rk hC [.z (.int 0),oA (aO aI hx26),oQ (b8 (r:=aI) 4 bM x22),oQ (b8 (r:=aI) 4 bM [(⟨10,x23,0,0⟩:Step)])] [3,78,79,80,81,82] [(3,ms 20 (g24+1) 4 aI x26)] [(20,some (ar 33 (g24+1) 4 aI x26))] [] (rk hC [] [8,76,77] [(8,vI (wr (x23+1)))] [] [] ⟨(x26,wr (x23+1)),(g24+1),h,lS⟩)
    ·refine dE ?_
     obtain⟨x27,hx27,h⟩:=bd h
     obtain rfl:=so h
     exact rq hC [.z (.int 0),oA (aO aI hx27),oQ (b8 (r:=aI) 4 bM x22),oQ (b8 (r:=aI) 4 bM [(⟨11,0,0,0⟩:Step)])] [2,3,83,84,85,86] [(2,ms 20 (g24+1) 4 aI x27)] [(20,some (ar 33 (g24+1) 4 aI x27))] [] (qw (lk hC [.ren 2 20 0] [2] [(2,ms 0 1 4 aI x27)] [(0,some (ar 33 1 4 aI x27)),(20,none)] [(0,true)]) (qr eW))
theorem yH{kind}{r}(h:kW n kind=some r):PQ G 33 [vI kind] (vI r):=by
 unfold kW at h
 refine pq aQ Tryz.func33 rfl fun w X hC=> ?_
 refine rq hC [] [2] [] [] [] (qs (rq hC [] [3] [(3,vI kind)] [] [] (qb (vj h (fun x_=>bA [(3,vI kind),(4,vB x_)] [] []) (fun j1 h=> ?_) (fun x2 h=> ?_)))))
 ·
  refine rq hC [] [4,5] [(4,vB (decide (kind=1)))] [] [] (aS h (fun c1 h=> ?_) (fun c1 h=> ?_))
  ·exact qk (lE h)
  ·refine rq hC [] [4,6] [(4,vB (decide (kind=2)))] [] [] (aS h (fun c2 h=> ?_) (fun c2 h=> ?_))
   ·exact qk (lE h)
   ·refine rq hC [] [4,7] [(4,vB (decide (kind=7)))] [] [] (aS h (fun c3 h=> ?_) (fun c3 h=> ?_))
    ·exact qk (lE h)
    ·exact rk hC [] [4,8] [(4,vB (decide (kind=8)))] [] [] (lE h)
 ·refine aS h (fun c4 h=> ?_) (fun c4 h=> ?_)
  ·obtain rfl:=so h
   exact rq hC [] [2] [(2,vI 2)] [] [] (qr eR)
  ·refine vj h (fun x_=>bA [(3,vI kind),(9,vB x_)] [] []) (fun j3 h=> ?_) (fun x4 h=> ?_)
   ·
    refine rq hC [] [9,10] [(9,vB (decide (kind=3)))] [] [] (aS h (fun c5 h=> ?_) (fun c5 h=> ?_))
    ·exact qk (lE h)
    ·refine rq hC [] [9,11] [(9,vB (decide (kind=4)))] [] [] (aS h (fun c6 h=> ?_) (fun c6 h=> ?_))
     ·exact qk (lE h)
     ·exact rk hC [] [9,12] [(9,vB (decide (kind=5)))] [] [] (lE h)
   ·refine aS h (fun c7 h=> ?_) (fun c7 h=> ?_)
    ·obtain rfl:=so h
     exact rq hC [] [2] [(2,vI 3)] [] [] (qr eR)
    ·refine vj h (fun x_=>bA [(3,vI kind),(13,vB x_)] [] []) (fun j5 h=> ?_) (fun x6 h=> ?_)
     ·
      refine rq hC [] [13,14] [(13,vB (decide (kind=6)))] [] [] (aS h (fun c8 h=> ?_) (fun c8 h=> ?_))
      ·exact qk (lE h)
      ·refine rq hC [] [13,15] [(13,vB (decide (kind=9)))] [] [] (aS h (fun c9 h=> ?_) (fun c9 h=> ?_))
       ·exact qk (lE h)
       ·exact rk hC [] [13,16] [(13,vB (decide (kind=10)))] [] [] (lE h)
     ·refine aS h (fun c10 h=> ?_) (fun c10 h=> ?_)
      ·obtain rfl:=so h
       exact rq hC [] [2] [(2,vI 1)] [] [] (qr eR)
      ·refine rq hC [] [17,18] [(17,vB (decide (kind=11)))] [] [] (aS h (fun c11 h=> ?_) (fun c11 h=> ?_))
       ·obtain rfl:=so h
        exact rq hC [] [2] [(2,vI 0)] [] [] (qr eR)
       ·obtain rfl:=so h
        exact qk (rq hC [] [2] [(2,vI (-1))] [] [] (qr eR))
theorem lW{s}{r}(h:d8 n s=some r):PQ G 29 [V.agg [vI s.kind,vI s.part,vI s.a,vI s.b]] (vM rI r):=by
 unfold d8 at h
 refine pq aQ Tryz.func29 rfl fun w X hC=> ?_
 obtain rfl:=so h
 exact rq hC [.z (.b (true))] [1,2] [(1,V.tp [T.int .i64 s.kind,T.int .i64 s.part,T.int .i64 s.a,T.int .i64 s.b])] [] [] (rq hC [.z (.int 0)] (fr 2 8) [(2,vM rI [s.part,s.a,s.b])] [] [] (qr eR))
theorem y5(G:GS)(n:Nat)(v:Int){r:Bool}(h:jC n v=some r):PQ G 57 [vI v] (vB r):=by
 unfold jC at h
 refine pq aQ Tryz.func57 rfl fun w X hC=> ?_
 obtain rfl:=so h
 exact rq hC [] [2] [] [] [] (rq hC [] [2,3,4] [(2,vB (!decide (v=0)))] [] [] (qr eR))
theorem uK{s}{r}(h:mG n s=some r):PQ G 27 [V.agg [vI s.kind,vI s.part,vI s.a,vI s.b]] (vB r):=by
 unfold mG at h
 refine pq aQ Tryz.func27 rfl fun w X hC=> ?_
 refine rq hC [.z (.b (true))] [1,2] [(1,V.tp [T.int .i64 s.kind,T.int .i64 s.part,T.int .i64 s.a,T.int .i64 s.b])] [] [] ?_
 obtain⟨x1,hx1,h⟩:=bd h
 refine rq hC [oV (yH G hx1)] (fr 3 4) [(3,vI x1)] [] [] (vj h (fun x_=>bA [(2,vB x_)] [] []) (fun j2 h=> ?_) (fun x6 h=> ?_))
 ·
  refine aT h (fun c1 h=> ?_) (fun c1 h=> ?_)
  ·exact rk hC (rF 7 c1) [2,7,8,9,10,11,12,13,14,15,16] [(2,vB false)] [] [] (lE h)
  ·obtain⟨x3,hx3,x4,hx4,x5,hx5,h⟩:=kI h
   exact rk hC [oT c1,oT c1,oV (lW G hx3),oT c1,oT c1,oA (aBm rI hx4),oQ (b8 (r:=rI) 1 (fun _=>rfl) x3),oT c1,oV (b6 G n x4 57 (fun q0=>jC n q0) (fun q0 r h=>y5 G n q0 h) hx5),oT c1,oT c1] [2,7,8,9,10,11,12,13,14,15,16] [(2,vB (!x5))] [] [] (lE h)
 ·obtain rfl:=so h
  exact qr eR
theorem y7(G:GS)(n:Nat)(n_a0:Int){r:Bool}(h:gF n n_a0=some r):PQ G 30 [vI n_a0] (vB r):=by
 unfold gF at h
 refine pq aQ Tryz.func30 rfl fun w X hC=> ?_
 refine rq hC [] [2] [] [] [] ?_
 obtain⟨x1,hx1,h⟩:=bd h
 obtain rfl:=so h
 exact rq hC [oV (pC G hx1)] (fr 2 4) [(2,vB (!x1))] [] [] (qr eR)
theorem O9{s}{r}(h:mI n s=some r):PQ G 14 [V.agg [vI s.kind,vI s.part,vI s.a,vI s.b]] (vB r):=by
 unfold mI at h
 refine pq aQ Tryz.func14 rfl fun w X hC=> ?_
 refine rq hC [.z (.b (true))] [1,2] [(1,V.tp [T.int .i64 s.kind,T.int .i64 s.part,T.int .i64 s.a,T.int .i64 s.b])] [] [] (vj h (fun x_=>bA [(2,vB x_)] [] []) (fun j1 h=> ?_) (fun x5 h=> ?_))
 ·
  obtain⟨x2,hx2,h⟩:=bd h
  refine aT h (fun c1 h=> ?_) (fun c1 h=> ?_)
  ·exact rk hC ([oV (uK G hx2)]++rF 5 c1) (fr 2 9) [(2,vB false)] [] [] (lE h)
  ·obtain⟨x3,hx3,x4,hx4,h⟩:=d7 h
   exact rk hC [oV (uK G hx2),oT c1,oT c1,oV (lW G hx3),oT c1,oV (b6 G n x3 30 (fun q0=>gF n q0) (fun q0 r h=>y7 G n q0 h) hx4),oT c1,oT c1] (fr 2 9) [(2,vB (!x4))] [] [] (lE h)
 ·obtain rfl:=so h
  exact qr eR
theorem y0(G:GS)(n:Nat){r:(List (List UInt8))}(h:lL n=some r):PQ G 32 [] (vM rS r):=by
 unfold lL at h
 refine pq aQ Tryz.func32 rfl fun w X hC=> ?_
 obtain rfl:=so h
 exact rq hC [] [0] [] [] [] (rq hC [.z (.int 0)] [0,1] [(0,vM rS [[105,110,116,101,114,99,104,97,110,103,101],[114,101,118,101,114,115,101],[115,107,101,119],[115,104,105,102,116],[115,116,114,105,112],[102,117,115,101],[100,105,115,116,114,105,98,117,116,101],[115,112,108,105,116],[115,119,97,112],[100,114,111,112],[102,111,108,100]])] [] [] (qr eR))
theorem G7{s}{r}(h:kV n s=some r):PQ G 15 [V.agg [vI s.kind,vI s.part,vI s.a,vI s.b]] (vS r):=by
 unfold kV at h
 refine pq aQ Tryz.func15 rfl fun w X hC=> ?_
 refine rq hC [.z (.b (true))] [1,2] [(1,V.tp [T.int .i64 s.kind,T.int .i64 s.part,T.int .i64 s.a,T.int .i64 s.b])] [] [] (qs ?_)
 obtain⟨x1,hx1,x2,hx2,h⟩:=d7 h
 refine dk hC bO [oV (y0 G n hx1),oR rS hx2] [3,6,7,8,9,10,11] [(3,vS x2)] [] [] (qs (qs ?_))
 obtain⟨x3,hx3,x4,hx4,x5,hx5,h⟩:=kI h
 refine dk hC bO [oV (lW G hx3),oV (yH G hx4),oA (rA rI hx5),oQ (b8 (r:=rI) 1 (fun _=>rfl) x3),oN rI x5] (fr 12 8) [(17,vM rI x5),(18,vI (x5.length:Int)),(19,vI 0)] [] [] (qb (jH h (fun x_=>bA [(3,vS x_.1),(17,vM rI x5),(18,vI (x5.length:Int)),(19,vI x_.2)] [] []) lS ?_))
 rintro again8 ⟨x6,x7⟩ h
 refine rq hC [] [20] [(20,vB (decide (x7<(x5.length:Int))))] [] [] (qs (aS h (fun c1 h=> ?_) (fun c1 h=> ?_)))
 ·refine qk (qs (qb ?_))
  obtain⟨x9,hx9,h⟩:=bd h
  refine rq hC [oR rI hx9] [5,21,22] [(5,vI x9)] [] [] ?_
  obtain⟨x10,hx10,x11,hx11,x12,hx12,h⟩:=kI h
  exact rk hC [oV (G.itoa x9 x10 hx10),oS hx11,oS hx12] [3,23,24,25,26,27] [(3,vS x12)] [] [] (rk hC [] [19,28] [(19,vI (wr (x7+1)))] [] [] (lE h))
 ·obtain rfl:=so h
  exact dE (rq hC [] [2,29] [(2,vS x6)] [] [] (qr eR))
theorem uW{list}{r}(h:fU n list=some r):PQ G 8 [vM aI list] (vS r):=by
 unfold fU at h
 refine pq aQ Tryz.func8 rfl fun w X hC=> ?_
 refine rq hC [] [2] [] [] [] (rq hC [] [3] [(3,vS [])] [] [] (qs (rq hC [oN aI list] [6,7,8] [(6,vM aI list),(7,vI (list.length:Int)),(8,vI 0)] [] [] (qb (jH h (fun x_=>bA [(0,vM aI list),(3,vS x_.1),(6,vM aI list),(7,vI (list.length:Int)),(8,vI x_.2)] [] []) lS ?_)))))
 rintro again3 ⟨x1,x2⟩ h
 refine rq hC [] [9] [(9,vB (decide (x2<(list.length:Int))))] [] [] (qs (aS h (fun c1 h=> ?_) (fun c1 h=> ?_)))
 ·refine qk (qs (qb ?_))
  obtain⟨x4,hx4,h⟩:=bd h
  refine rq hC [oR aI hx4,.z (.nat 20)] [5,10,11] [(5,V.ref 20 0)] [(20,sc [vI x4.kind,vI x4.part,vI x4.a,vI x4.b])] [(20,true)] (qs (vj h (fun x_=>bA [(0,vM aI list),(3,vS x1),(5,V.ref 20 0),(6,vM aI list),(7,vI (list.length:Int)),(8,vI x2),(19,vB x_)] [(20,E.cells [vI x4.kind,vI x4.part,vI x4.a,vI x4.b])] [20]) (fun j5 h=> ?_) (fun x7 h=> ?_)))
  ·
   refine aT h (fun c2 h=> ?_) (fun c2 h=> ?_)
   ·obtain⟨x6,hx6,h⟩:=bd h
    exact rk hC [oN aI list,oF c2,oF c2,oV (O9 G hx6),oF c2,oF c2] (fr 12 8) [(19,vB (!x6))] [] [] (lE h)
   ·exact rk hC ([oN aI list]++rT 4 c2) (fr 12 8) [(19,vB true)] [] [] (lE h)
  ·refine aS h (fun c3 h=> ?_) (fun c3 h=> ?_)
   ·obtain rfl:=so h
    exact rq hC [] [2] [(2,vS [])] [] [] (qr eR)
   ·refine qk ?_
    obtain⟨x8,hx8,x9,hx9,x10,hx10,h⟩:=kI h
    exact rk hC [oV (G7 G hx8),oS hx9,oS hx10] [3,20,21,22,23,24] [(3,vS x10)] [] [] (rk hC [] [8,25] [(8,vI (wr (x2+1)))] [] [] (lE h))
 ·obtain rfl:=so h
  exact dE (rq hC [] [2,26] [(2,vS x1)] [] [] (qr eR))
theorem pA(G:GS)(n:Nat)(code:List UInt8){r:Bool}(h:d9 n code=some r):PQ G 3 [vM rY code] (vB r):=by
 unfold d9 at h
 refine pq aQ Tryz.func3 rfl fun w X hC=> ?_
 refine rq hC [] [2] [] [] [] (qs (rq hC [oN rY code] [7,8,9] [(9,vB (decide ((1048576:Int)<(code.length:Int))))] [] [] (aS h (fun c1 h=> ?_) (fun c1 h=> ?_))))
 ·obtain rfl:=so h
  exact rq hC [] [2] [(2,vB true)] [] [] (qr eR)
 ·refine qk ?_
  obtain⟨x1,hx1,h⟩:=bd h
  refine rq hC [oV (nR G hx1),.z (.nat 20)] [3,10,11] [(3,V.ref 20 0)] [(20,some (E.cells (dT x1)))] [(20,true)] ?_
  obtain⟨x2,hx2,h⟩:=bd h
  refine rq hC [oC [] [21] (qZ G hx2)] [4,12,13] [(4,ms 21 1 4 aI x2)] [(21,some (ar 33 1 4 aI x2))] [(21,true)] (qs ?_)
  obtain⟨x3,hx3,x4,hx4,h⟩:=d7 h
  refine rq hC [oC [] [22] (qX G hx3),.z (.b (true)),oV (N3 G hx4)] (fr 14 5) [(18,vB (!x4))] [(22,some (ar 33 1 4 aI x3))] [(22,true)] (aS h (fun c2 h=> ?_) (fun c2 h=> ?_))
  ·obtain rfl:=so h
   exact rq hC [] [2] [(2,vB false)] [] [] (qr eR)
  ·refine qk (qs (rq hC [] [5] [(5,vI 0)] [] [] (qb (qw (lk hC [.fz 21 [4] []] [4] [(4,vM aI x2)] [(21,none)] []) (jH h (fun x_=>bA [(3,V.ref 20 0),(4,vM aI x2),(5,vI x_)] [(20,E.cells (dT x1)),(22,ar 33 1 4 aI x3)] [20,21,22]) lS ?_)))))
   rintro again6 x5 h
   refine qs (rq hC [oN aI x2] (fr 19 4) [(22,vB (decide (x5<(x2.length:Int))))] [] [] (aS h (fun c3 h=> ?_) (fun c3 h=> ?_)))
   ·refine qk (qs (qb (qs ?_)))
    obtain⟨x7,hx7,x8,hx8,h⟩:=d7 h
    refine rq hC [oA (rA aI hx7),oQ (b8 (r:=aI) 4 bM x2),oV (uW G hx8)] (fr 25 7) [(31,vB (decide (x8=[])))] [] [] (aS h (fun c4 h=> ?_) (fun c4 h=> ?_))
    ·obtain rfl:=so h
     exact rq hC [] [2] [(2,vB false)] [] [] (qr eR)
    ·refine qk (rq hC [] [6] [(6,vI 0)] [] [] (qb (jH h (fun x_=>bA [(3,V.ref 20 0),(4,vM aI x2),(5,vI x5),(6,vI x_)] [(20,E.cells (dT x1)),(22,ar 33 1 4 aI x3)] [20,21,22]) lS ?_)))
     rintro again10 x9 h
     refine qs (rq hC [] [32,33,34] [(34,vB (decide (x9<x5)))] [] [] (aS h (fun c5 h=> ?_) (fun c5 h=> ?_)))
     ·refine qk (qs (qb (qs ?_)))
      obtain⟨x11,hx11,x12,hx12,h⟩:=d7 h
      refine dk hC bO [oR aI hx11,oR aI hx12,.z (.b (decide ([x11.kind,x11.part,x11.a,x11.b]=[x12.kind,x12.part,x12.a,x12.b]))),oQ aFI,oQ (Eq.refl (decide ([x11.kind,x11.part,x11.a,x11.b]=[x12.kind,x12.part,x12.a,x12.b])))] (fr 37 9) [(45,vB (decide ([x11.kind,x11.part,x11.a,x11.b]=[x12.kind,x12.part,x12.a,x12.b])))] [] [] (aS h (fun c6 h=> ?_) (fun c6 h=> ?_))
      ·obtain rfl:=so h
       exact rq hC [] [2] [(2,vB false)] [] [] (qr eR)
      ·exact qk (rk hC [] [6,35,36] [(6,vI (wr (x9+1)))] [] [] (lE h))
     ·exact dE (rk hC [] [5,23,24] [(5,vI (wr (x5+1)))] [] [] (lE h))
   ·refine dE ?_
    obtain⟨x13,hx13,h⟩:=bd h
    obtain rfl:=so h
    exact rq hC [oN aI x2,oV (mS G hx13)] [2,46,47,48,49,50,51] [(2,vB ((decide ((0:Int)<(x2.length:Int)))==x13))] [] [] (qr eR)
end Go.Lift
