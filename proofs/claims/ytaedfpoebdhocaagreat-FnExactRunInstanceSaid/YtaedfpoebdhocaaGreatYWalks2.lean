/- The walks: the code computes what the plain functions say. -/
import Derived.Test.YtaedfpoebdhocaaGreatYModels
import Derived.Test.YtaedfpoebdhocaaGreatYWalks1
set_option maxRecDepth 10000
set_option linter.unusedVariables false
namespace Go.Lift
open Go Go.Proofs
variable (G:GS) {n:Nat}
theorem n7{list}{depth}{r}(h:lN n list depth=some r):PQ G 150 [vM aA list,vI depth] (vB r):=by
 refine pq aQ Tryz.func150 rfl fun w X hC=>aU hC [.z (.b (true))] [3,4] [(3,V.tp [T.int .i64 depth])] (vj h (fun x_=>cP [(4,vB x_)]) (fun j1 h=>?_) fun x4 h=>?_)
 ·obtain⟨x2,hx2,h⟩:=bd h;refine bA h (fun c1 h=>bK hC ([oN aA list,oV (aY G hx2)]++rF 5 c1) (fr 4 10) [(4,vB false)] (lE h)) fun c1 h=>?_;obtain⟨x3,hx3,h⟩:=bd h;exact bK hC ([oN aA list,oV (aY G hx2)]++rT 3 c1++[oV (e9 G n list 174 [T.int .i64 depth] (fun q0=>fH n q0 depth) (fun q0 r h=>C3 G n q0 depth h) hx3),oT c1,oT c1]) (fr 4 10) [(4,vB (!x3))] (lE h)
 obtain rfl:=so h;exact zr
theorem iR{nest}{r}(h:jC n nest=some r):PQ G 125 [vM aH nest] (vB r):=by
 refine pq aQ Tryz.func125 rfl fun w X hC=>bC hC [2] (qs (aU hC [oN aH nest] [5,6,7] [(5,vM aH nest),(6,vI (nest.length:Int)),(7,vI 0)] (qb (gF h (fun x_=>cP [(0,vM aH nest),(5,vM aH nest),(6,vI (nest.length:Int)),(7,vI x_)]) lS ?_))));rintro again2 x1 h;refine aE hC [8] [(8,vK x1 nest)] (S3 h (fun c1 h=>?_) fun c1 h=>?_)
 ·refine qk (eG ?_);obtain⟨x3,hx3,h⟩:=bd h;refine rq hC [oR aH hx3,.z (.nat 20)] [3,4,9,10,11] [(3,vI x1),(4,V.ref 20 0)] [(20,some (E.cells (q8 x3)))] [(20,true)] (vj h (fun x_=>iE [(0,vM aH nest),(5,vM aH nest),(6,vI (nest.length:Int)),(7,vI x1),(23,vB x_)] [(20,E.cells (q8 x3))] [20]) (fun j4 h=>?_) fun x7 h=>?_)
  ·obtain⟨x5,hx5,h⟩:=bd h;refine bA h (fun c2 h=>?_) fun c2 h=>bK hC ([oV (n7 G hx5)]++rT 6 c2) (fr 12 12) [(23,vB true)] (lE h);obtain⟨x6,hx6,h⟩:=bd h;exact bK hC ([oV (n7 G hx5)]++rF 4 c2++[oV (n7 G hx6),oF c2,oF c2]) (fr 12 12) [(23,vB (!x6))] (lE h)
  refine aZ h (fun c3 h=>?_) fun c3 h=>qk (bG hC [7,24] [(7,vI (wr (x1+1)))] (lE h));cases h;exact aE hC [2] [(2,vB false)] zr
 cases h;exact d4 (aU hC [oN aH nest] [2,25,26,27] [(2,vD ((nest.length:Int)≤4))] zr)
theorem C6{nest}{r}(h:kD n nest=some r):VQ G 104 [] [vM aH nest] (V.tup [ms 0 1 1 (rL rI) r.1,vB r.2]) [ar 40 1 1 (rL rI) r.1]:=by
 refine vq aQ Tryz.func104 rfl fun w X β0 hC hg=>bC hC [2,3] (qs ?_);obtain⟨x1,hx1,h⟩:=bd h;refine aU hC [oV (iR G hx1)] [5,6,7] [(7,vB (!x1))] (aZ h (fun c1 h=>?_) fun c1 h=>?_)
 ·cases h;exact aE hC [2,3] [(2,eP),(3,vB false)] (qw (lk hC [.grow 2 0 40] [2] [(2,ms 0 1 1 (rL rI) [])] [(0,some (ar 40 1 1 (rL rI) []))] [(0,true)]) zw)
 refine qk (rq hC [.z (.nat 20)] [4,8,9,10] [(4,V.ref 20 0)] [(20,sc [vM aH nest,vI 0,eP])] [(20,true)] (qs ?_));obtain⟨x2,hx2,h⟩:=bd h;refine rq hC [.z (.at 2),.z (.growc 20 2 21 40),oC [20,21] [] (wN G n (⟨nest,0,[]⟩:Walking) 1 [] hx2)] [11,12,13] [(13,vB (!x2.1))] [(21,some (ar 40 2 1 (rL rI) x2.2.out)),(20,sc [vM aH x2.2.nest,vI x2.2.steps,ms 21 2 1 (rL rI) x2.2.out])] [(21,true),(20,true),(21,true)] (aZ h (fun c2 h=>?_) fun c2 h=>?_)
 ·cases h;exact aE hC [2,3] [(2,eP),(3,vB false)] (qw (lk hC [.grow 2 0 40] [2] [(2,ms 0 1 1 (rL rI) [])] [(0,some (ar 40 1 1 (rL rI) []))] [(0,true)]) zw)
 cases h;exact qk (aE hC [2,3,14,15,16,17] [(2,ms 21 2 1 (rL rI) x2.2.out),(3,vB true)] (xR hC 2 21 (ms 0 1 1 (rL rI) x2.2.out) (ar 40 1 1 (rL rI) x2.2.out)))
theorem C4(G:GS)(n:Nat)(s:Affine)(c0__a1:Int){r:Bool}(h:gR n s c0__a1=some r):PQ G 164 [V.agg (cH s),V.tp [T.int .i64 c0__a1]] (vB r):=by
 refine pq aQ Tryz.func164 rfl fun w X hC=>aU hC [.z (.b (true))] [2,3] [(2,V.tp (bW s))] (vj h (fun x_=>cP [(3,vB x_)]) (fun j1 h=>?_) fun x4 h=>?_)
 ·obtain⟨x2,hx2,h⟩:=bd h;refine bA h (fun c1 h=>?_) fun c1 h=>nE hC cG ([oV (cL G hx2)]++rT 5 c1) (fr 3 10) [(3,vB true)] (lE h);obtain⟨x3,hx3,h⟩:=bd h;exact nE hC cG ([oV (cL G hx2),oF c1,oF c1,oV (fM G hx3)]++rF 3 c1) (fr 3 10) [(3,vD (c0__a1<x3))] (lE h)
 obtain rfl:=so h;exact zr
theorem kJ{a}{depth}{r}(h:lO n a depth=some r):PQ G 141 [V.agg (eL a),vI depth] (vB r):=by
 refine pq aQ Tryz.func141 rfl fun w X hC=>aU hC [.z (.b (true)),.z (.b (true))] [2,3,4] [(2,V.tp (cO a)),(3,V.tp [T.int .i64 depth])] (vj h (fun x_=>cP [(4,vB x_)]) (fun j1 h=>?_) fun x5 h=>?_)
 ·obtain⟨x2,hx2,h⟩:=bd h;refine bA h (fun c1 h=>bK hC ([oV (dK G hx2)]++rF 5 c1++sF 6) (fr 4 17) [(4,vB false)] (lE h)) fun c1 h=>?_;obtain⟨x3,hx3,h⟩:=bd h;refine bA h (fun c2 h=>bK hC ([oV (dK G hx2)]++rT 3 c1++[oN aA a.subs,oT c1,oV (aY G hx3),oT c1]++rF 6 c2) (fr 4 17) [(4,vB false)] (lE h)) fun c2 h=>?_;obtain⟨x4,hx4,h⟩:=bd h;exact bK hC ([oV (dK G hx2)]++rT 3 c1++[oN aA a.subs,oT c1,oV (aY G hx3),oT c1]++rT 4 c2++[oV (e9 G n a.subs 164 [T.int .i64 depth] (fun q0=>gR n q0 depth) (fun q0 r h=>C4 G n q0 depth h) hx4),oT c2,oT c2]) (fr 4 17) [(4,vB (!x4))] (lE h)
 obtain rfl:=so h;exact zr
theorem fK{a}{r}(h:lL n a=some r):PQ G 167 [V.agg (cH a)] (vB r):=by refine pq aQ Tryz.func167 rfl fun w X hC=>aU hC [.z (.b (true))] [1,2] [(1,V.tp (bW a))] (vj h (fun x_=>cP [(2,vB x_)]) (fun j1 h=>bA h (fun c1 h=>bK hC ([oN rI a.coefs]++rF 4 c1) (fr 2 10) [(2,vB false)] (lE h)) fun c1 h=>bK hC ([oN rI a.coefs]++rT 4 c1) (fr 2 10) [(2,vD (a.const=0))] (lE h)) fun x2 h=>?_);obtain rfl:=so h;exact zr
theorem kI{a}{r}(h:f9 n a=some r):PQ G 168 [V.agg (eL a)] (vB r):=by refine pq aQ Tryz.func168 rfl fun w X hC=>aU hC [.z (.b (true))] [1,2] [(1,V.tp (cO a))] (vj h (fun x_=>cP [(2,vB x_)]) (fun j1 h=>bA h (fun c1 h=>bK hC (rF 5 c1) (fr 2 10) [(2,vB false)] (lE h)) fun c1 h=>bK hC (rT 3 c1++[oN aA a.subs,oT c1,oT c1]) (fr 2 10) [(2,vD ((a.subs.length:Int)=0))] (lE h)) fun x2 h=>?_);obtain rfl:=so h;exact zr
theorem Z0{kind}{r}(h:O5 n kind=some r):PQ G 169 [vI kind] (vB r):=by refine pq aQ Tryz.func169 rfl fun w X hC=>bC hC [2] ?_;obtain⟨x1,hx1,h⟩:=bd h;obtain rfl:=so h;exact aU hC [oV (aY G hx1)] [2,3,4] [(2,vB x1)] zr
theorem R4(G:GS): ∀(n:Nat) (e:Expr) (depth:Int) (deep:Int) (count:Int) {r:Bool×Int} (h:i_exprScan n e depth deep count=some r),VQ G 142 [E.cells [vI count]] [V.agg (jG e),vI depth,vI deep,V.ref 0 0] (vB r.1) [E.cells [vI r.2]]:=by
 intro n;induction n with
 |zero=>intro e depth deep count r h;rw [i_exprScan.eq_def] at h;cases h
 |succ n ih=>
  intro e depth deep count r h;rw [i_exprScan.eq_def] at h;dsimp only at h;refine vq aQ Tryz.func142 rfl fun w X β0 hC hg=>aU hC [.z (.b (true))] [4,8] [(4,V.tp (fN e))] (mY hC (fr 9 5) [(0,sc [vI (wr (count+1))])] [] (qs (vj h (fun x_=>iE [(1,vI depth),(2,vI deep),(3,V.ref 0 0),(4,V.tp (fN e)),(21,vB x_)] [(0,E.cells [vI (wr (count+1))])] [0]) (fun j1 h=>bA h (fun c1 h=>bK hC (rF 3 c1) (fr 14 8) [(21,vD ((5:Int)<deep))] (lE h)) fun c1 h=>bK hC (rT 3 c1) (fr 14 8) [(21,vB true)] (lE h)) fun x2 h=>?_)));refine aZ h (fun c2 h=>?_) fun c2 h=>?_
  ·cases h;exact aE hC [8] [(8,vB false)] zw
  refine qk (qs (vj h (fun x_=>iE [(1,vI depth),(2,vI deep),(3,V.ref 0 0),(4,V.tp (fN e)),(51,vB x_)] [(0,E.cells [vI (wr (count+1))])] [0]) (fun j3 h=>?_) fun x10 h=>?_))
  ·refine bA h (fun c3 h=>?_) fun c3 h=>?_
   ·refine bA h (fun c4 h=>?_) fun c4 h=>?_
    ·refine bA h (fun c5 h=>bK hC (rF 4 c3++sF 4++rF 4 c4++[eF,oF c4]++sF 5++rF 4 c5++[eF,oF c5,eF]) (fr 22 30) [(51,vB false)] (lE h)) fun c5 h=>?_;obtain⟨x4,hx4,h⟩:=bd h;exact bK hC (rF 4 c3++sF 4++rF 4 c4++[eF,oF c4]++sF 5++rT 3 c5++[oV (kI G hx4),oT c5,eF,oT c5,eF]) (fr 22 30) [(51,vB (!x4))] (lE h)
    obtain⟨x5,hx5,h⟩:=bd h;refine bA h (fun c6 h=>?_) fun c6 h=>bK hC (rF 4 c3++sF 4++rT 3 c4++[oV (fK G hx5),oT c4,eF,oT c4,eF]++rT 6 c6) (fr 22 30) [(51,vB true)] (lE h);refine bA h (fun c7 h=>bK hC (rF 4 c3++sF 4++rT 3 c4++[oV (fK G hx5),oT c4,eF,oT c4,eF]++rF 4 c6++rF 4 c7++[oF c6,oF c7,oF c6]) (fr 22 30) [(51,vB false)] (lE h)) fun c7 h=>?_;obtain⟨x6,hx6,h⟩:=bd h;exact bK hC (rF 4 c3++sF 4++rT 3 c4++[oV (fK G hx5),oT c4,eF,oT c4,eF]++rF 4 c6++rT 3 c7++[oV (kI G hx6),oT c7,oF c6,oT c7,oF c6]) (fr 22 30) [(51,vB (!x6))] (lE h)
   refine bA h (fun c8 h=>?_) fun c8 h=>bK hC (rT 4 c3++rT 6 c8++sT 6) (fr 22 30) [(51,vB true)] (lE h);refine bA h (fun c9 h=>?_) fun c9 h=>?_
   ·refine bA h (fun c10 h=>bK hC (rT 4 c3++rF 4 c8++rF 4 c9++[oF c8,oF c9,oF c8]++sF 4++rF 4 c10++[eF,oF c10,eF]) (fr 22 30) [(51,vB false)] (lE h)) fun c10 h=>?_;obtain⟨x7,hx7,h⟩:=bd h;exact bK hC (rT 4 c3++rF 4 c8++rF 4 c9++[oF c8,oF c9,oF c8]++sF 4++rT 3 c10++[oV (kI G hx7),oT c10,eF,oT c10,eF]) (fr 22 30) [(51,vB (!x7))] (lE h)
   obtain⟨x8,hx8,h⟩:=bd h;refine bA h (fun c11 h=>?_) fun c11 h=>bK hC (rT 4 c3++rF 4 c8++rT 3 c9++[oV (fK G hx8),oT c9,oF c8,oT c9,oF c8]++rT 6 c11) (fr 22 30) [(51,vB true)] (lE h);refine bA h (fun c12 h=>bK hC (rT 4 c3++rF 4 c8++rT 3 c9++[oV (fK G hx8),oT c9,oF c8,oT c9,oF c8]++rF 4 c11++rF 4 c12++[oF c11,oF c12,oF c11]) (fr 22 30) [(51,vB false)] (lE h)) fun c12 h=>?_;obtain⟨x9,hx9,h⟩:=bd h;exact bK hC (rT 4 c3++rF 4 c8++rT 3 c9++[oV (fK G hx8),oT c9,oF c8,oT c9,oF c8]++rF 4 c11++rT 3 c12++[oV (kI G hx9),oT c12,oF c11,oT c12,oF c11]) (fr 22 30) [(51,vB (!x9))] (lE h)
  refine aZ h (fun c13 h=>?_) fun c13 h=>?_
  ·cases h;exact aE hC [8] [(8,vB false)] zw
  refine qk (eG (aE hC (fr 52 4) [(52,vD (e.kind=1))] (aZ h (fun c14 h=>?_) fun c14 h=>?_)))
  ·refine vj h (fun x_=>iE [(8,vB x_)] [(0,E.cells [vI (wr (count+1))])] [0]) (fun j11 h=>?_) fun x13 h=>?_
   ·obtain⟨x12,hx12,h⟩:=bd h;exact bA h (fun c15 h=>bK hC ([oV (aY G hx12)]++rF 5 c15) [8,56,57,58,59,60,61,62,63,64] [(8,vB false)] (lE h)) fun c15 h=>bK hC ([oV (aY G hx12)]++rT 3 c15++[oN aC e.kids,oT c15,oT c15]) [8,56,57,58,59,60,61,62,63,64] [(8,vD ((e.kids.length:Int)=0))] (lE h)
   cases h;exact zw
  refine aE hC (fr 65 4) [(65,vD (e.kind=2))] (aZ h (fun c16 h=>?_) fun c16 h=>?_)
  ·refine vj h (fun x_=>iE [(8,vB x_)] [(0,E.cells [vI (wr (count+1))])] [0]) (fun j14 h=>?_) fun x17 h=>?_
   ·obtain⟨x15,hx15,h⟩:=bd h;refine bA h (fun c17 h=>bK hC ([oV (cL G hx15)]++rF 6 c17++sF 5) [8,69,70,71,72,73,74,75,76,77,78,79,80,81,82,83,84] [(8,vB false)] (lE h)) fun c17 h=>?_;obtain⟨x16,hx16,h⟩:=bd h;refine bA h (fun c18 h=>bK hC ([oV (cL G hx15)]++rT 3 c17++[oV (fM G hx16)]++rT 3 c17++rF 5 c18) [8,69,70,71,72,73,74,75,76,77,78,79,80,81,82,83,84] [(8,vB false)] (lE h)) fun c18 h=>?_;exact bK hC ([oV (cL G hx15)]++rT 3 c17++[oV (fM G hx16)]++rT 3 c17++rT 3 c18++[oN aC e.kids,oT c18,oT c18]) [8,69,70,71,72,73,74,75,76,77,78,79,80,81,82,83,84] [(8,vD ((e.kids.length:Int)=0))] (lE h)
   cases h;exact zw
  refine aE hC (fr 85 4) [(85,vD (e.kind=3))] (aZ h (fun c19 h=>?_) fun c19 h=>?_)
  ·refine vj h (fun x_=>iE [(8,vB x_)] [(0,E.cells [vI (wr (count+1))])] [0]) (fun j18 h=>?_) fun x20 h=>?_
   ·obtain⟨x19,hx19,h⟩:=bd h;exact bA h (fun c20 h=>bK hC ([oV (kJ G hx19)]++rF 5 c20) [8,89,90,91,92,93,94,95,96,97,98] [(8,vB false)] (lE h)) fun c20 h=>bK hC ([oV (kJ G hx19)]++rT 3 c20++[oN aC e.kids,oT c20,oT c20]) [8,89,90,91,92,93,94,95,96,97,98] [(8,vD ((e.kids.length:Int)=0))] (lE h)
   cases h;exact zw
  refine vj h (fun x_=>iE [(1,vI depth),(2,vI deep),(3,V.ref 0 0),(4,V.tp (fN e)),(99,vB x_)] [(0,E.cells [vI (wr (count+1))])] [0]) (fun j21 h=>?_) fun x23 h=>?_
  ·obtain⟨x22,hx22,h⟩:=bd h;exact bA h (fun c21 h=>bK hC ([oV (Z0 G hx22)]++rF 3 c21++[oN aC e.kids,oF c21,oF c21]) (fr 99 11) [(99,vB (!decide ((e.kids.length:Int)=2)))] (lE h)) fun c21 h=>bK hC ([oV (Z0 G hx22)]++rT 5 c21) (fr 99 11) [(99,vB true)] (lE h)
  refine aZ h (fun c22 h=>?_) fun c22 h=>?_
  ·cases h;exact aE hC [8] [(8,vB false)] zw
  refine qk (vj h (fun x_=>iE [(8,vB x_.2)] [(0,E.cells [vI x_.1])] [0]) (fun j24 h=>?_) ?_)
  ·obtain⟨x25,hx25,x26,hx26,h⟩:=gG h;refine bA h (fun c23 h=>?_) fun c23 h=>?_
   ·exact rk hC ([.z (.row (bI x25)),oQ (dV aC hx25 (aL x25)),oC [0] [] (ih x25 depth (wr (deep+1)) (wr (count+1)) hx26)]++rF 10 c23) [8,110,111,112,113,114,115,116,117,118,119,120,121,122,123,124,125,126,127,128,129] [(8,vB false)] [(0,sc [vI x26.2])] [(0,true)] (lE h)
   obtain⟨x27,hx27,x28,hx28,h⟩:=gG h;exact rk hC ([.z (.row (bI x25)),oQ (dV aC hx25 (aL x25)),oC [0] [] (ih x25 depth (wr (deep+1)) (wr (count+1)) hx26)]++rT 3 c23++[.z (.row (bI x27)),oQ (dV aC hx27 (aL x27))]++rT 6 c23++[oC [0] [] (ih x27 depth (wr (deep+1)) x26.2 hx28),oT c23]) [8,110,111,112,113,114,115,116,117,118,119,120,121,122,123,124,125,126,127,128,129] [(8,vB x28.1)] [(0,sc [vI x28.2])] [(0,true),(0,true)] (lE h)
  rintro⟨x29,x30⟩ h;cases h;exact zw
theorem G8{s}{depth}{r}(h:mE n s depth=some r):PQ G 107 [V.agg (jP s),vI depth] (vB r):=by
 refine pq aQ Tryz.func107 rfl fun w X hC=>aU hC [.z (.b (true))] [2,4] [(2,V.tp (oD s))] (rq hC [.z (.nat 20)] [5] [(5,V.ref 20 0)] [(20,sc [vI 0])] [(20,true)] (vj h (fun x_=>iE [(4,vB x_.2)] [(20,E.cells [vI x_.1])] [20]) (fun j1 h=>?_) ?_))
 ·obtain⟨x2,hx2,h⟩:=bd h;refine bA h (fun c1 h=>bK hC ([oV (aY G hx2)]++rF 5 c1++sF 5) [4,6,7,8,9,10,11,12,13,14,15,16,17,18,19] [(4,vB false)] (lE h)) fun c1 h=>?_;obtain⟨x3,hx3,h⟩:=bd h;refine bA h (fun c2 h=>bK hC ([oV (aY G hx2)]++rT 4 c1++[oV (kJ G hx3),oT c1]++rF 5 c2) [4,6,7,8,9,10,11,12,13,14,15,16,17,18,19] [(4,vB false)] (lE h)) fun c2 h=>?_;obtain⟨x4,hx4,h⟩:=bd h;exact rk hC ([oV (aY G hx2)]++rT 4 c1++[oV (kJ G hx3),oT c1]++rT 4 c2++[oC [20] [] (R4 G n s.value depth 1 0 hx4),oT c2]) [4,6,7,8,9,10,11,12,13,14,15,16,17,18,19] [(4,vB x4.1)] [(20,sc [vI x4.2])] [(20,true)] (lE h)
 rintro⟨x5,x6⟩ h;obtain rfl:=so h;exact zr
theorem nD(G:GS)(n:Nat)(s:Stmt)(c0__a1:Part){r:Bool}(h:b9 n s c0__a1=some r):PQ G 106 [V.agg (jP s),V.tp (jN c0__a1)] (vB r):=by refine pq aQ Tryz.func106 rfl fun w X hC=>aU hC [.z (.b (true))] [2,3] [(2,V.tp (oD s))] ?_;obtain⟨x1,hx1,h⟩:=bd h;cases h;exact aU hC [oN aH c0__a1.nest,oV (G8 G hx1)] (fr 3 7) [(3,vB (!x1))] zr
theorem G7(G:GS)(n:Nat)(n_a0:Int){r:Bool}(h:jB n n_a0=some r):PQ G 143 [vI n_a0] (vB r):=by refine pq aQ Tryz.func143 rfl fun w X hC=>bC hC [2] ?_;obtain⟨x1,hx1,h⟩:=bd h;cases h;exact aU hC [oV (aY G hx1)] (fr 2 4) [(2,vB (!x1))] zr
theorem pR{point}{r}(h:m5 n point=some r):PQ G 108 [vM rI point] (vB r):=by
 refine pq aQ Tryz.func108 rfl fun w X hC=>bC hC [2] (vj h (fun x_=>cP [(2,vB x_)]) (fun j1 h=>?_) fun x3 h=>?_)
 ·refine bA h (fun c1 h=>bK hC ([oN rI point]++rF 4 c1) (fr 2 9) [(2,vB false)] (lE h)) fun c1 h=>?_;obtain⟨x2,hx2,h⟩:=bd h;exact bK hC [oN rI point,oT c1,oT c1,oV (cE G n point 143 (fun q0=>jB n q0) (fun q0 r h=>G7 G n q0 h) hx2),oT c1,oT c1] (fr 2 9) [(2,vB (!x2))] (lE h)
 obtain rfl:=so h;exact zr
theorem aCV(G:GS): ∀(n:Nat) (e:Expr) {r:(List Access)} (h:i_reads n e=some r),VQ G 145 [] [V.agg (jG e)] (ms 0 1 2 aV r) [ar 119 1 2 aV r]:=by
 intro n;induction n with
 |zero=>intro e r h;rw [i_reads.eq_def] at h;cases h
 |succ n ih=>
  intro e r h;rw [i_reads.eq_def] at h;dsimp only at h;refine vq aQ Tryz.func145 rfl fun w X β0 hC hg=>aU hC [.z (.b (true))] [1,2] [(1,V.tp (fN e))] (qs (aE hC [6,7,8] [(8,vD (e.kind=3))] (aZ h (fun c1 h=>?_) fun c1 h=>?_)))
  ·obtain rfl:=so h;exact rq hC [.z (.int 1),.z (.nat 20)] [2,9,10,11] [(2,ms 20 1 2 aV [e.read])] [(20,some (ar 119 1 2 aV [e.read]))] [(20,true)] (xR hC 2 20 (ms 0 1 2 aV [e.read]) (ar 119 1 2 aV [e.read]))
  refine qk (aE hC [3] [(3,eP)] (qs (aU hC [oN aC e.kids] (fr 12 4) [(13,vM aC e.kids),(14,vI (e.kids.length:Int)),(15,vI 0)] (qb (qw (lk hC [.grow 3 20 119] [3] [(3,ms 20 1 2 aV [])] [(20,some (ar 119 1 2 aV []))] [(20,true)]) ?_)))));refine vlN h (fun x_ g_=>iE [(3,ms 20 g_ 2 aV x_.1),(13,vM aC e.kids),(14,vI (e.kids.length:Int)),(15,vI x_.2)] [(20,ar 119 g_ 2 aV x_.1)] [20]) 1 (lS) ?_;rintro again4 ⟨x1,x2⟩ g3 h;refine aE hC [16] [(16,vK x2 e.kids)] (S3 h (fun c2 h=>?_) fun c2 h=>?_)
  ·refine qk (eG ?_);obtain⟨x5,hx5,h⟩:=bd h;refine rq hC [.z (.row (bI x5)),.z (.nat 21),oQ (dV aC hx5 (aL x5))] [5,17,18] [(5,V.ref 21 0)] [(21,some (E.cells (jG x5)))] [(21,true)] ?_;obtain⟨x6,hx6,x7,hx7,h⟩:=gG h;exact rk hC [oC [] [22] (ih x5 hx6),.z (.at 2),.z (.fz 22 [21] []),oA (dY aV hx7),oM 2 l9 x1,oM 2 l9 x6] [3,19,20,21,22] [(3,ms 20 (g3+1) 2 aV x7)] [(22,none),(20,some (ar 119 (g3+1) 2 aV x7))] [(22,true)] (bG hC [15,23] [(15,vI (wr (x2+1)))] ⟨(x7,wr (x2+1)),(g3+1),h,lS⟩)
  obtain rfl:=so h;exact d4 (aE hC [2,24] [(2,ms 20 g3 2 aV x1)] (xR hC 2 20 (ms 0 1 2 aV x1) (ar 119 1 2 aV x1)))
theorem pU{a}{r}(h:kF n a=some r):PQ G 120 [V.agg [vS a.name,vM rI a.dims]] (vI r):=by
 refine pq aQ Tryz.func120 rfl fun w X hC=>aU hC [.z (.b (true))] [1,2] [(1,V.tp [T.str a.name,T.sl (List.map rI a.dims)])] (aE hC [3] [(3,vI 1)] (qs (aU hC [oN rI a.dims] (fr 6 4) [(7,vM rI a.dims),(8,vI (a.dims.length:Int)),(9,vI 0)] (qb (gF h (fun x_=>cP [(3,vI x_.1),(7,vM rI a.dims),(8,vI (a.dims.length:Int)),(9,vI x_.2)]) lS ?_)))));rintro again3 ⟨x1,x2⟩ h;refine aE hC [10] [(10,vK x2 a.dims)] (S3 h (fun c1 h=>?_) fun c1 h=>?_)
 ·refine qk (eG ?_);obtain⟨x4,hx4,h⟩:=bd h;exact aU hC [oR rI hx4] [5,11,12] [(5,vI x4)] (bG hC [3,13,14,15] [(3,vI (wr (x1*x4)))] (bG hC [9,16] [(9,vI (wr (x2+1)))] (lE h)))
 obtain rfl:=so h;exact d4 (aE hC [2,17] [(2,vI x1)] zr)
theorem dT{p}{a}{point}{r}(h:cY n p a point=some r):PQ G 90 [V.agg (fP p),V.agg (eL a),vM rI point] (vI r):=by
 refine pq aQ Tryz.func90 rfl fun w X hC=>aU hC [.z (.b (true)),.z (.b (true))] [3,4,6] [(3,V.tp (bZ p)),(4,V.tp (cO a))] (aE hC [7] [(7,vI 0)] (qs (aU hC [oN aN p.arrays] (fr 14 4) [(15,vM aN p.arrays),(16,vI (p.arrays.length:Int)),(17,vI 0)] (qb (gF h (fun x_=>cP [(2,vM rI point),(4,V.tp (cO a)),(7,vI x_.1),(15,vM aN p.arrays),(16,vI (p.arrays.length:Int)),(17,vI x_.2)]) lS ?_)))));rintro again3 ⟨x1,x2⟩ h;refine aE hC [18] [(18,vK x2 p.arrays)] (S3 h (fun c1 h=>?_) fun c1 h=>?_)
 ·refine qk (eG ?_);obtain⟨x4,hx4,h⟩:=bd h;refine rq hC [oR aN hx4,.z (.nat 20)] [9,19,20] [(9,V.ref 20 0)] [(20,sc [vS x4.name,vM rI x4.dims])] [(20,true)] (qs (aE hC (fr 21 5) [(25,vB (!decide (x4.name=a.array)))] (aZ h (fun c2 h=>?_) fun c2 h=>?_)))
  ·obtain⟨x5,hx5,h⟩:=bd h;exact aU hC [oV (pU G hx5)] [7,26,27,28,29] [(7,vI (wr (x1+x5)))] (d4 (bG hC [17,70] [(17,vI (wr (x2+1)))] (lE h)))
  refine qk (qs (aU hC [oN aA a.subs,oN rI x4.dims] (fr 30 7) [(36,vB (!decide ((a.subs.length:Int)=(x4.dims.length:Int))))] (aZ h (fun c3 h=>?_) fun c3 h=>?_)))
  ·cases h;exact aE hC [6] [(6,vI (-1))] zr
  refine qk (aE hC [10] [(10,vI 0)] (qs (aU hC [oN aA a.subs] (fr 37 4) [(38,vM aA a.subs),(39,vI (a.subs.length:Int)),(40,vI 0)] (qb (gF h (fun x_=>iE [(2,vM rI point),(7,vI x1),(9,V.ref 20 0),(10,vI x_.1),(38,vM aA a.subs),(39,vI (a.subs.length:Int)),(40,vI x_.2)] [(20,E.cells [vS x4.name,vM rI x4.dims])] [20]) lS ?_)))));rintro again8 ⟨x6,x7⟩ h;refine aE hC [41] [(41,vK x7 a.subs)] (S3 h (fun c4 h=>?_) fun c4 h=>?_)
  ·refine qk (eG ?_);obtain⟨x9,hx9,h⟩:=bd h;refine rq hC [oR aA hx9,.z (.nat 21)] [11,12,42,43,44] [(11,vI x7),(12,V.ref 21 0)] [(21,some (E.cells (cH x9)))] [(21,true)] ?_;obtain⟨x10,hx10,h⟩:=bd h;refine aU hC [oV (dE G hx10)] [13,45,46,47] [(13,vI x10)] (qs ?_);obtain⟨x11,hx11,x12,hx12,h⟩:=gG h;refine aU hC [oR rI hx11,oV (aY G hx12)] (fr 48 9) [(56,vB (!x12))] (aZ h (fun c5 h=>?_) fun c5 h=>qk (bK hC [oR rI hx11] [10,57,58,59,60,61,62,63,64,65] [(10,vI (wr ((wr (x6*x11))+x10)))] (bG hC [40,66] [(40,vI (wr (x7+1)))] (lE h))));cases h;exact aE hC [6] [(6,vI (-1))] zr
  cases h;exact d4 (aE hC [6,67,68,69] [(6,vI (wr (x1+x6)))] zr)
 cases h;exact d4 (aE hC [6] [(6,vI (-1))] zr)
theorem pT(G:GS)(n:Nat)(a:Access)(c0__a1:Prog)(c1__a2:List Int){r:Bool}(h:cX n a c0__a1 c1__a2=some r):PQ G 146 [V.agg (eL a),V.tp (bZ c0__a1),V.tp [T.sl (List.map rI c1__a2)]] (vB r):=by refine pq aQ Tryz.func146 rfl fun w X hC=>aU hC [.z (.b (true))] [3,4] [(3,V.tp (cO a))] ?_;obtain⟨x1,hx1,h⟩:=bd h;cases h;exact aU hC [oV (dT G hx1)] (fr 4 6) [(4,vD (x1<0))] zr
theorem nC(G:GS)(n:Nat)(s:List Access)(fF:FuncId)(fC0:List T)(fC1:List T)(f:Access→Option Bool)(hf: ∀(q0:Access) r,f q0=some r→PQ G fF [V.agg (eL q0),V.tp fC0,V.tp fC1] (vB r)){r:Int}(h:f8 n s f=some r):PQ G 170 [vM aV s,V.fn fF [V.tp fC0,V.tp fC1]] (vI r):=by
 refine pq aQ Tryz.func170 rfl fun w X hC=>bC hC [4] (qs (aU hC [oN aV s] [6,7,8] [(7,vI (s.length:Int)),(8,vI 0)] (qb (gF h (fun x_=>cP [(0,vM aV s),(1,V.fn fF [V.tp fC0,V.tp fC1]),(7,vI (s.length:Int)),(8,vI x_)]) lS ?_))));rintro again2 x1 h;refine aE hC [9] [(9,vK x1 s)] (S3 h (fun c1 h=>?_) fun c1 h=>?_)
 ·refine qk (eG (aE hC [5,10] [(5,vI x1)] ?_));obtain⟨x3,hx3,x4,hx4,h⟩:=gG h;refine aU hC [oR aV hx3,oV (hf x3 _ hx4)] (fr 11 6) [(16,vB x4)] (aZ h (fun c2 h=>?_) fun c2 h=>qk (bG hC [8,18] [(8,vI (wr (x1+1)))] (lE h)));obtain rfl:=so h;exact aE hC [4,17] [(4,vI x1)] zr
 obtain rfl:=so h;exact d4 (aE hC [4] [(4,vI (-1))] zr)
theorem lT(G:GS)(n:Nat)(s:List Access)(fF:FuncId)(fC0:List T)(fC1:List T)(f:Access→Option Bool)(hf: ∀(q0:Access) r,f q0=some r→PQ G fF [V.agg (eL q0),V.tp fC0,V.tp fC1] (vB r)){r:Bool}(h:dA n s f=some r):PQ G 144 [vM aV s,V.fn fF [V.tp fC0,V.tp fC1]] (vB r):=by refine pq aQ Tryz.func144 rfl fun w X hC=>bC hC [4] ?_;obtain⟨x1,hx1,h⟩:=bd h;cases h;exact aU hC [oV (nC G n s fF fC0 fC1 f hf hx1)] (fr 4 5) [(4,vD ((0:Int)≤x1))] zr
theorem r5{p}{s}{point}{r}(h:fI n p s point=some r):PQ G 109 [V.agg (fP p),V.agg (jP s),vM rI point] (vB r):=by
 refine pq aQ Tryz.func109 rfl fun w X hC=>aU hC [.z (.b (true)),.z (.b (true)),.z (.b (true))] (fr 3 4) [(3,V.tp (bZ p)),(4,V.tp (oD s)),(5,V.tp [T.sl (point.map rI)])] (vj h (fun x_=>cP [(6,vB x_)]) (fun j1 h=>?_) fun x5 h=>?_)
 ·obtain⟨x2,hx2,h⟩:=bd h;refine bA h (fun c1 h=>bK hC ([oV (dT G hx2)]++rF 7 c1) (fr 6 15) [(6,vB false)] (lE h)) fun c1 h=>?_;obtain⟨x3,hx3,x4,hx4,h⟩:=gG h;exact rk hC ([oV (dT G hx2)]++rT 3 c1++[oC [] [20] (aCV G n s.value hx3),oT c1,oT c1,.z (.b (true)),oV (lT G n x3 146 (bZ p) [T.sl (point.map rI)] (fun q0=>cX n q0 p point) (fun q0 r h=>pT G n q0 p point h) hx4),oT c1,oT c1]) (fr 6 15) [(6,vB (!x4))] [(20,some (ar 119 1 2 aV x3))] [(20,true)] (lE h)
 obtain rfl:=so h;exact zr
theorem o0(G:GS)(n:Nat)(s:List Stmt)(fF:FuncId)(fC0:List T)(f:Stmt→Option Bool)(hf: ∀(q0:Stmt) r,f q0=some r→PQ G fF [V.agg (jP q0),V.tp fC0] (vB r)){r:Int}(h:iF n s f=some r):PQ G 140 [vM aG s,V.fn fF [V.tp fC0]] (vI r):=by
 refine pq aQ Tryz.func140 rfl fun w X hC=>bC hC [4] (qs (aU hC [oN aG s] [6,7,8] [(7,vI (s.length:Int)),(8,vI 0)] (qb (gF h (fun x_=>cP [(0,vM aG s),(1,V.fn fF [V.tp fC0]),(7,vI (s.length:Int)),(8,vI x_)]) lS ?_))));rintro again2 x1 h;refine aE hC [9] [(9,vK x1 s)] (S3 h (fun c1 h=>?_) fun c1 h=>?_)
 ·refine qk (eG (aE hC [5,10] [(5,vI x1)] ?_));obtain⟨x3,hx3,x4,hx4,h⟩:=gG h;refine aU hC [oR aG hx3,oV (hf x3 _ hx4)] (fr 11 6) [(16,vB x4)] (aZ h (fun c2 h=>?_) fun c2 h=>qk (bG hC [8,18] [(8,vI (wr (x1+1)))] (lE h)));obtain rfl:=so h;exact aE hC [4,17] [(4,vI x1)] zr
 obtain rfl:=so h;exact d4 (aE hC [4] [(4,vI (-1))] zr)
theorem mQ(G:GS)(n:Nat)(s:List Stmt)(fF:FuncId)(fC0:List T)(f:Stmt→Option Bool)(hf: ∀(q0:Stmt) r,f q0=some r→PQ G fF [V.agg (jP q0),V.tp fC0] (vB r)){r:Bool}(h:dP n s f=some r):PQ G 105 [vM aG s,V.fn fF [V.tp fC0]] (vB r):=by refine pq aQ Tryz.func105 rfl fun w X hC=>bC hC [4] ?_;obtain⟨x1,hx1,h⟩:=bd h;cases h;exact aU hC [oV (o0 G n s fF fC0 f hf hx1)] (fr 4 5) [(4,vD ((0:Int)≤x1))] zr
theorem o1{p}{r}(h:dQ n p=some r):VQ G 69 [] [V.agg (fP p)] (V.tup [ms 0 1 3 dG r.1,vB r.2]) [ar 53 1 3 dG r.1]:=by
 refine vq aQ Tryz.func69 rfl fun w X β0 hC hg=>aU hC [.z (.b (true))] [1,2,3] [(1,V.tp (bZ p))] (qs (vj h (fun x_=>cP [(1,V.tp (bZ p)),(22,vB x_)]) (fun j1 h=>?_) fun x3 h=>?_))
 ·obtain⟨x2,hx2,h⟩:=bd h;exact bA h (fun c1 h=>bK hC ([oV (uE G hx2)]++rF 3 c1++[oN aJ p.parts,oF c1,oF c1]) (fr 13 10) [(22,vD ((4:Int)<(p.parts.length:Int)))] (lE h)) fun c1 h=>bK hC ([oV (uE G hx2)]++rT 5 c1) (fr 13 10) [(22,vB true)] (lE h)
 refine aZ h (fun c2 h=>?_) fun c2 h=>?_
 ·cases h;exact aE hC [2,3] [(2,eP),(3,vB false)] (qw (lk hC [.grow 2 0 53] [2] [(2,ms 0 1 3 dG [])] [(0,some (ar 53 1 3 dG []))] [(0,true)]) zw)
 refine qk (aE hC [4] [(4,eP)] (qs (aU hC [oN aJ p.parts] (fr 23 4) [(24,vM aJ p.parts),(25,vI (p.parts.length:Int)),(26,vI 0)] (qb (qw (lk hC [.grow 4 20 53] [4] [(4,ms 20 1 3 dG [])] [(20,some (ar 53 1 3 dG []))] [(20,true)]) ?_)))));refine vlN h (fun x_ g_=>iE [(1,V.tp (bZ p)),(4,ms 20 g_ 3 dG x_.1),(24,vM aJ p.parts),(25,vI (p.parts.length:Int)),(26,vI x_.2)] [(20,ar 53 g_ 3 dG x_.1)] [20]) 1 (lS) ?_;rintro again7 ⟨x4,x5⟩ g6 h;refine aE hC [27] [(27,vK x5 p.parts)] (S3 h (fun c3 h=>?_) fun c3 h=>?_)
 ·refine qk (eG ?_);obtain⟨x8,hx8,h⟩:=bd h;refine rq hC [oR aJ hx8,.z (.nat 21),.z (.at 0),.z (.fp 21 [6])] [5,6,28,29,30] [(5,vI x5),(6,V.tp (jN x8))] [(21,none)] [(21,true)] ?_;obtain⟨x9,hx9,h⟩:=bd h;refine rq hC [oC [] [22] (C6 G hx9)] [7,8,31,32,33,34,35,36] [(7,ms 22 1 1 (rL rI) x9.1),(8,vB x9.2)] [(22,some (ar 40 1 1 (rL rI) x9.1))] [(22,true)] (qs (vj h (fun x_=>iE [(1,V.tp (bZ p)),(4,ms 20 g6 3 dG x4),(5,vI x5),(6,V.tp (jN x8)),(7,ms 22 1 1 (rL rI) x9.1),(24,vM aJ p.parts),(25,vI (p.parts.length:Int)),(26,vI x5),(51,vB x_)] [(20,ar 53 g6 3 dG x4),(22,ar 40 1 1 (rL rI) x9.1)] [20,21,22]) (fun j10 h=>?_) fun x13 h=>?_))
  ·refine bA h (fun c4 h=>?_) fun c4 h=>bK hC (rT 6 c4++sT 5) (fr 37 15) [(51,vB true)] (lE h);obtain⟨x11,hx11,h⟩:=bd h;refine bA h (fun c5 h=>?_) fun c5 h=>bK hC (rF 3 c4++[oN aG x8.body,oF c4,oV (aY G hx11),oF c4,oF c4]++rT 5 c5) (fr 37 15) [(51,vB true)] (lE h);obtain⟨x12,hx12,h⟩:=bd h;exact bK hC (rF 3 c4++[oN aG x8.body,oF c4,oV (aY G hx11),oF c4,oF c4]++rF 4 c5++[oV (mQ G n x8.body 106 (jN x8) (fun q0=>b9 n q0 x8) (fun q0 r h=>nD G n q0 x8 h) hx12),oF c5]) (fr 37 15) [(51,vB x12)] (lE h)
  refine aZ h (fun c6 h=>?_) fun c6 h=>?_
  ·cases h;exact aE hC [2,3] [(2,eP),(3,vB false)] (qw (lk hC [.grow 2 0 53] [2] [(2,ms 0 1 3 dG [])] [(0,some (ar 53 1 3 dG []))] [(0,true)]) zw)
  refine qk (aU hC [oN (rL rI) x9.1] [52,53,54] [(52,ms 22 1 1 (rL rI) x9.1),(53,vI (x9.1.length:Int)),(54,vI 0)] (qb (vlN h (fun x_ g_=>iE [(1,V.tp (bZ p)),(4,ms 20 g_ 3 dG x_.1),(5,vI x5),(6,V.tp (jN x8)),(24,vM aJ p.parts),(25,vI (p.parts.length:Int)),(26,vI x5),(52,ms 22 1 1 (rL rI) x9.1),(53,vI (x9.1.length:Int)),(54,vI x_.2)] [(20,ar 53 g_ 3 dG x_.1),(22,ar 40 1 1 (rL rI) x9.1)] [20,21,22]) g6 (lS) ?_)));rintro again17 ⟨x14,x15⟩ g16 h;refine aE hC [55] [(55,vK x15 x9.1)] (S3 h (fun c7 h=>?_) fun c7 h=>d4 (bG hC [26,84] [(26,vI (wr (x5+1)))] ⟨(x14,wr (x5+1)),g16,h,lS⟩));refine qk (eG ?_);obtain⟨x18,hx18,h⟩:=bd h;refine aU hC [oQ (oH (rL rI) hx18),oX (rL rI) hx18] [10,56,57] [(10,vM rI x18)] (qs ?_);obtain⟨x19,hx19,h⟩:=bd h;refine aU hC [oV (pR G hx19)] [58,59,60] [(60,vB (!x19))] (aZ h (fun c8 h=>?_) fun c8 h=>?_)
  ·cases h;exact aE hC [2,3] [(2,eP),(3,vB false)] (qw (lk hC [.grow 2 0 53] [2] [(2,ms 0 1 3 dG [])] [(0,some (ar 53 1 3 dG []))] [(0,true)]) zw)
  refine qk (aU hC [oN aG x8.body] (fr 61 4) [(62,vM aG x8.body),(63,vI (x8.body.length:Int)),(64,vI 0)] (qb (vlN h (fun x_ g_=>iE [(1,V.tp (bZ p)),(4,ms 20 g_ 3 dG x_.1),(5,vI x5),(6,V.tp (jN x8)),(10,vM rI x18),(24,vM aJ p.parts),(25,vI (p.parts.length:Int)),(26,vI x5),(52,ms 22 1 1 (rL rI) x9.1),(53,vI (x9.1.length:Int)),(54,vI x15),(62,vM aG x8.body),(63,vI (x8.body.length:Int)),(64,vI x_.2)] [(20,ar 53 g_ 3 dG x_.1),(22,ar 40 1 1 (rL rI) x9.1)] [20,21,22]) g16 (lS) ?_)));rintro again23 ⟨x20,x21⟩ g22 h;refine aE hC [65] [(65,vK x21 x8.body)] (S3 h (fun c9 h=>?_) fun c9 h=>d4 (bG hC [54,83] [(54,vI (wr (x15+1)))] ⟨(x20,wr (x15+1)),g22,h,lS⟩));refine qk (eG ?_);obtain⟨x24,hx24,h⟩:=bd h;refine rq hC [oR aG hx24,.z (.nat 23)] [11,12,66,67,68] [(11,vI x21),(12,V.ref 23 0)] [(23,some (E.cells (jP x24)))] [(23,true)] (qs ?_);obtain⟨x25,hx25,h⟩:=bd h;refine aU hC [oV (r5 G hx25)] (fr 69 5) [(73,vB (!x25))] (aZ h (fun c10 h=>?_) fun c10 h=>?_)
  ·cases h;exact aE hC [2,3] [(2,eP),(3,vB false)] (qw (lk hC [.grow 2 0 53] [2] [(2,ms 0 1 3 dG [])] [(0,some (ar 53 1 3 dG []))] [(0,true)]) zw)
  refine qk ?_;obtain⟨x26,hx26,x27,hx27,h⟩:=gG h;exact rk hC [oC [] [24] (G.clone x18 hx26),.z (.at 4),.z (.fz 24 [78] []),.z (.int 0),oA (dY dG hx27),oM 3 I0 x20,oM 3 I0 [(⟨x5,x21,x26⟩:Inst)]] [4,74,75,76,77,78,79,80,81] [(4,ms 20 (g22+1) 3 dG x27)] [(24,none),(20,some (ar 53 (g22+1) 3 dG x27))] [(24,true)] (bG hC [64,82] [(64,vI (wr (x21+1)))] ⟨(x27,wr (x21+1)),(g22+1),h,lS⟩)
 cases h;exact d4 (aU hC [oN dG x4] [2,3,85,86,87,88] [(2,ms 20 g6 3 dG x4),(3,vD ((x4.length:Int)≤120))] (xR hC 2 20 (ms 0 1 3 dG x4) (ar 53 1 3 dG x4)))
theorem iI{p}{r}(h:gT n p=some r):PQ G 40 [V.agg (fP p)] (vB r):=by refine pq aQ Tryz.func40 rfl fun w X hC=>aU hC [.z (.b (true))] [1,2] [(1,V.tp (bZ p))] ?_;obtain⟨x1,hx1,h⟩:=bd h;cases h;exact rq hC [oC [] [20] (o1 G hx1)] (fr 3 7) [(4,vB x1.2)] [(20,some (ar 53 1 3 dG x1.1))] [(20,true)] (aE hC [2,10] [(2,vB x1.2)] zr)
theorem wO{p}{x}{r}(h:gS n p x=some r):PQ G 88 [V.agg (fP p),V.agg (oP x)] (V.agg (jP r)):=by refine pq aQ Tryz.func88 rfl fun w X hC=>rq hC [.z (.b (true)),.z (.b (true)),.z (.nat 20)] [2,3,4] [(2,V.tp (bZ p)),(3,V.tp (iZ x)),(4,V.ref 20 0)] [(20,sc [vS [],eP,vI 0,vI 0,eP,vI 0,vS [],eP,eP])] [(20,true)] (qs ?_);obtain⟨x1,hx1,x2,hx2,h⟩:=gG h;obtain rfl:=so h;exact dkt hC cG [oR aJ hx1,oR aG hx2] (fr 5 11) [(20,some (E.cells (jP x2)))] [] zr
theorem dO{a}{b}{r}(h:fT n a b=some r):PQ G 22 [vM rI a,vM rI b] (vB r):=by
 refine pq aQ Tryz.func22 rfl fun w X hC=>bC hC [4] (qs (aU hC [oN rI a,oN rI b] (fr 6 5) [(10,vB (!decide ((a.length:Int)=(b.length:Int))))] (aZ h (fun c1 h=>?_) fun c1 h=>?_)))
 ·cases h;exact aE hC [4] [(4,vB false)] zr
 refine qk (qs (aE hC [5] [(5,vI 0)] (qb (gF h (fun x_=>cP [(0,vM rI a),(1,vM rI b),(5,vI x_)]) lS ?_))));rintro again2 x1 h;refine qs (aU hC [oN rI a] (fr 11 4) [(14,vK x1 a)] (aZ h (fun c2 h=>?_) fun c2 h=>?_))
 ·refine qk (eG (qs ?_));obtain⟨x3,hx3,x4,hx4,h⟩:=gG h;refine nE hC cG [oR rI hx3,oR rI hx4] (fr 17 9) [(25,vB (!decide (x3=x4)))] (aZ h (fun c3 h=>?_) fun c3 h=>qk (bG hC [5,15,16] [(5,vI (wr (x1+1)))] (lE h)));cases h;exact aE hC [4] [(4,vB false)] zr
 cases h;exact d4 (aE hC [4] [(4,vB true)] zr)
theorem Y3{a}{b}{r}(h:qA n a b=some r):PQ G 75 [V.agg [vS a.name,vM rI a.dims],V.agg [vS b.name,vM rI b.dims]] (vB r):=by
 refine pq aQ Tryz.func75 rfl fun w X hC=>aU hC [.z (.b (true)),.z (.b (true))] [2,3,4] [(2,V.tp [T.str a.name,T.sl (List.map rI a.dims)]),(3,V.tp [T.str b.name,T.sl (List.map rI b.dims)])] (qs (aE hC (fr 5 5) [(9,vB (!decide (a.name=b.name)))] (aZ h (fun c1 h=>?_) fun c1 h=>?_)))
 ·cases h;exact aE hC [4] [(4,vB false)] zr
 refine qk (qs ?_);obtain⟨x1,hx1,h⟩:=bd h;refine aU hC [oV (dO G hx1)] (fr 10 6) [(15,vB (!x1))] (aZ h (fun c2 h=>?_) fun c2 h=>?_)
 ·cases h;exact aE hC [4] [(4,vB false)] zr
 cases h;exact qk (aE hC [4] [(4,vB true)] zr)
theorem R2{a}{b}{r}(h:rD n a b=some r):PQ G 43 [vM aN a,vM aN b] (vB r):=by
 refine pq aQ Tryz.func43 rfl fun w X hC=>bC hC [4] (qs (aU hC [oN aN a,oN aN b] (fr 6 5) [(10,vB (!decide ((a.length:Int)=(b.length:Int))))] (aZ h (fun c1 h=>?_) fun c1 h=>?_)))
 ·cases h;exact aE hC [4] [(4,vB false)] zr
 refine qk (qs (aE hC [5] [(5,vI 0)] (qb (gF h (fun x_=>cP [(0,vM aN a),(1,vM aN b),(5,vI x_)]) lS ?_))));rintro again2 x1 h;refine qs (aU hC [oN aN a] (fr 11 4) [(14,vK x1 a)] (aZ h (fun c2 h=>?_) fun c2 h=>?_))
 ·refine qk (eG (qs ?_));obtain⟨x3,hx3,x4,hx4,x5,hx5,h⟩:=yE h;refine nE hC cG [oR aN hx3,oR aN hx4,oV (Y3 G hx5)] (fr 17 10) [(26,vB (!x5))] (aZ h (fun c3 h=>?_) fun c3 h=>qk (bG hC [5,15,16] [(5,vI (wr (x1+1)))] (lE h)));cases h;exact aE hC [4] [(4,vB false)] zr
 cases h;exact d4 (aE hC [4] [(4,vB true)] zr)
theorem t8{a}{b}{r}(h:kZ n a b=some r):PQ G 186 [V.agg (cH a),V.agg (cH b)] (vB r):=by
 refine pq aQ Tryz.func186 rfl fun w X hC=>aU hC [.z (.b (true)),.z (.b (true))] [2,3,4] [(2,V.tp (bW a)),(3,V.tp (bW b))] (qs ?_);obtain⟨x1,hx1,h⟩:=bd h;refine aU hC [oV (dO G hx1)] (fr 5 6) [(10,vB (!x1))] (aZ h (fun c1 h=>?_) fun c1 h=>?_)
 ·cases h;exact aE hC [4] [(4,vB false)] zr
 refine qk (qs (aE hC (fr 11 5) [(15,vB (!decide (a.const=b.const)))] (aZ h (fun c2 h=>?_) fun c2 h=>?_)))
 ·cases h;exact aE hC [4] [(4,vB false)] zr
 cases h;exact qk (aE hC [4] [(4,vB true)] zr)
theorem mP{a}{b}{r}(h:iX n a b=some r):PQ G 171 [vM aA a,vM aA b] (vB r):=by
 refine pq aQ Tryz.func171 rfl fun w X hC=>bC hC [4] (qs (aU hC [oN aA a,oN aA b] (fr 6 5) [(10,vB (!decide ((a.length:Int)=(b.length:Int))))] (aZ h (fun c1 h=>?_) fun c1 h=>?_)))
 ·cases h;exact aE hC [4] [(4,vB false)] zr
 refine qk (qs (aE hC [5] [(5,vI 0)] (qb (gF h (fun x_=>cP [(0,vM aA a),(1,vM aA b),(5,vI x_)]) lS ?_))));rintro again2 x1 h;refine qs (aU hC [oN aA a] (fr 11 4) [(14,vK x1 a)] (aZ h (fun c2 h=>?_) fun c2 h=>?_))
 ·refine qk (eG (qs ?_));obtain⟨x3,hx3,x4,hx4,x5,hx5,h⟩:=yE h;refine nE hC cG [oR aA hx3,oR aA hx4,oV (t8 G hx5)] (fr 17 10) [(26,vB (!x5))] (aZ h (fun c3 h=>?_) fun c3 h=>qk (bG hC [5,15,16] [(5,vI (wr (x1+1)))] (lE h)));cases h;exact aE hC [4] [(4,vB false)] zr
 cases h;exact d4 (aE hC [4] [(4,vB true)] zr)
theorem aBk{a}{b}{r}(h:sM n a b=some r):PQ G 147 [V.agg (q8 a),V.agg (q8 b)] (vB r):=by
 refine pq aQ Tryz.func147 rfl fun w X hC=>aU hC [.z (.b (true)),.z (.b (true))] [2,3,4] [(2,V.tp (oE a)),(3,V.tp (oE b))] (qs ?_);obtain⟨x1,hx1,h⟩:=bd h;refine aU hC [oV (mP G hx1)] (fr 5 6) [(10,vB (!x1))] (aZ h (fun c1 h=>?_) fun c1 h=>?_)
 ·cases h;exact aE hC [4] [(4,vB false)] zr
 refine qk (qs ?_);obtain⟨x2,hx2,h⟩:=bd h;refine aU hC [oV (mP G hx2)] (fr 11 6) [(16,vB (!x2))] (aZ h (fun c2 h=>?_) fun c2 h=>?_)
 ·cases h;exact aE hC [4] [(4,vB false)] zr
 cases h;exact qk (aE hC [4] [(4,vB true)] zr)
theorem Y1{a}{b}{r}(h:vA n a b=some r):PQ G 112 [vM aH a,vM aH b] (vB r):=by
 refine pq aQ Tryz.func112 rfl fun w X hC=>bC hC [4] (qs (aU hC [oN aH a,oN aH b] (fr 6 5) [(10,vB (!decide ((a.length:Int)=(b.length:Int))))] (aZ h (fun c1 h=>?_) fun c1 h=>?_)))
 ·cases h;exact aE hC [4] [(4,vB false)] zr
 refine qk (qs (aE hC [5] [(5,vI 0)] (qb (gF h (fun x_=>cP [(0,vM aH a),(1,vM aH b),(5,vI x_)]) lS ?_))));rintro again2 x1 h;refine qs (aU hC [oN aH a] (fr 11 4) [(14,vK x1 a)] (aZ h (fun c2 h=>?_) fun c2 h=>?_))
 ·refine qk (eG (qs ?_));obtain⟨x3,hx3,x4,hx4,x5,hx5,h⟩:=yE h;refine nE hC cG [oR aH hx3,oR aH hx4,oV (aBk G hx5)] (fr 17 10) [(26,vB (!x5))] (aZ h (fun c3 h=>?_) fun c3 h=>qk (bG hC [5,15,16] [(5,vI (wr (x1+1)))] (lE h)));cases h;exact aE hC [4] [(4,vB false)] zr
 cases h;exact d4 (aE hC [4] [(4,vB true)] zr)
theorem uA{a}{b}{r}(h:lA n a b=some r):PQ G 172 [V.agg (eL a),V.agg (eL b)] (vB r):=by
 refine pq aQ Tryz.func172 rfl fun w X hC=>aU hC [.z (.b (true)),.z (.b (true))] [2,3,4] [(2,V.tp (cO a)),(3,V.tp (cO b))] (qs (aE hC (fr 5 5) [(9,vB (!decide (a.array=b.array)))] (aZ h (fun c1 h=>?_) fun c1 h=>?_)))
 ·cases h;exact aE hC [4] [(4,vB false)] zr
 refine qk (qs ?_);obtain⟨x1,hx1,h⟩:=bd h;refine aU hC [oV (mP G hx1)] (fr 10 6) [(15,vB (!x1))] (aZ h (fun c2 h=>?_) fun c2 h=>?_)
 ·cases h;exact aE hC [4] [(4,vB false)] zr
 cases h;exact qk (aE hC [4] [(4,vB true)] zr)
theorem Y2(G:GS)(n:Nat)(self:Expr→Expr→Option Bool)(hself: ∀(q0:Expr) (q1:Expr) {r:Bool},self q0 q1=some r→PQ G 173 [V.agg (jG q0),V.agg (jG q1)] (vB r))(a:List Expr)(b:List Expr){r:Bool}(h:vC n self a b=some r):PQ G 187 [vM aC a,vM aC b] (vB r):=by
 refine pq aQ Tryz.func187 rfl fun w X hC=>bC hC [4] (qs (aU hC [oN aC a,oN aC b] (fr 6 5) [(10,vB (!decide ((a.length:Int)=(b.length:Int))))] (aZ h (fun c1 h=>?_) fun c1 h=>?_)))
 ·cases h;exact aE hC [4] [(4,vB false)] zr
 refine qk (qs (aE hC [5] [(5,vI 0)] (qb (gF h (fun x_=>cP [(0,vM aC a),(1,vM aC b),(5,vI x_)]) lS ?_))));rintro again2 x1 h;refine qs (aU hC [oN aC a] (fr 11 4) [(14,vK x1 a)] (aZ h (fun c2 h=>?_) fun c2 h=>?_))
 ·refine qk (eG (qs ?_));obtain⟨x3,hx3,x4,hx4,x5,hx5,h⟩:=yE h;refine nE hC cG [.z (.row (bI x3)),.z (.row (bI x4)),oQ (dV aC hx3 (aL x3)),oQ (dV aC hx4 (aL x4)),oV (hself x3 x4 hx5)] (fr 17 10) [(26,vB (!x5))] (aZ h (fun c3 h=>?_) fun c3 h=>qk (bG hC [5,15,16] [(5,vI (wr (x1+1)))] (lE h)));cases h;exact aE hC [4] [(4,vB false)] zr
 cases h;exact d4 (aE hC [4] [(4,vB true)] zr)
end Go.Lift
