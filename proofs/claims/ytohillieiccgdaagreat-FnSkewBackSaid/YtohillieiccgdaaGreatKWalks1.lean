/- The walks: the code computes what the plain functions say. -/
import Derived.Test.YtohillieiccgdaaGreatKModels
import Derived.Test.YtohillieiccgdaaGreatKWalks0
set_option maxRecDepth 10000
set_option linter.unusedVariables false
namespace Go.Lift
open Go Go.Proofs
variable (G:GS) {n:Nat}
theorem lC{a}{r}(h:gG n a=some r):PQ G 291 [V.agg (b8 a)] (vS r):=by
 unfold gG at h
 refine pq aN Tryz.func291 rfl fun w X hC=> ?_
 refine rq hC [.z (.b (true))] [1,2] [(1,V.tp (dC a))] [] [] (qs ?_)
 obtain⟨x1,hx1,x2,hx2,x3,hx3,h⟩:=jH h
 obtain⟨x4,hx4,h⟩:=bd h
 obtain rfl:=so h
 exact dk hC bD [oS hx1,oV (nS G hx2),oS hx3,oS hx4] (fr 2 9) [(2,vS x4)] [] [] (qr eR)
theorem G8(G:GS): ∀(n:Nat) (e:Expr) {r:(List UInt8)} (h:s_l3Text n e=some r),PQ G 292 [V.agg (cN e)] (vS r):=by
 intro n
 induction n with
 |zero=>intro e r h;rw [s_l3Text.eq_def] at h;cases h
 |succ n ih=>
  intro e r h
  rw [s_l3Text.eq_def] at h;dsimp only at h
  refine pq aN Tryz.func292 rfl fun w X hC=> ?_
  refine rq hC [.z (.b (true))] [1,2] [(1,V.tp (eU e))] [] [] (qs (rq hC [] [3,4] [(4,vI e.kind)] [] [] (qb (rq hC [] [5,6] [(5,vB (decide (e.kind=1)))] [] [] (aT h (fun c1 h=> ?_) (fun c1 h=> ?_))))))
  ·obtain⟨x1,hx1,h⟩:=bd h
   obtain rfl:=so h
   exact rq hC [oV (qP G n e.num hx1)] [2,7,8,9] [(2,vS x1)] [] [] (qr eR)
  ·refine rq hC [] [10,11] [(10,vB (decide (e.kind=2)))] [] [] (aT h (fun c2 h=> ?_) (fun c2 h=> ?_))
   ·obtain⟨x2,hx2,x3,hx3,x4,hx4,h⟩:=jH h
    obtain rfl:=so h
    exact rq hC [oV (uJ G hx2),oS hx3,oS hx4] [2,12,13,14,15,16] [(2,vS x4)] [] [] (qr eR)
   ·refine rq hC [] [17,18] [(17,vB (decide (e.kind=3)))] [] [] (aT h (fun c3 h=> ?_) (fun c3 h=> ?_))
    ·obtain⟨x5,hx5,h⟩:=bd h
     obtain rfl:=so h
     exact rq hC [oV (lC G hx5)] [2,19,20,21] [(2,vS x5)] [] [] (qr eR)
    ·refine qk (qs ?_)
     obtain⟨x6,hx6,x7,hx7,x8,hx8,h⟩:=jH h
     obtain⟨x9,hx9,x10,hx10,x11,hx11,h⟩:=jH h
     obtain⟨x12,hx12,x13,hx13,x14,hx14,h⟩:=jH h
     obtain rfl:=so h
     exact dk hC bD [.z (.row (d6 x6)),oQ (eV aH hx6 (cS x6)),oV (ih x6 hx7),oS hx8,oS hx9,oS hx10,.z (.row (d6 x11)),oQ (eV aH hx11 (cS x11)),oV (ih x11 hx12),oS hx13,oS hx14] [2,22,23,24,25,26,27,28,29,30,31,32,33,34,35,36,37,38,39,40,41,42,43] [(2,vS x14)] [] [] (qr eR)
theorem I1{s}{r}(h:pT n s=some r):PQ G 284 [V.agg (cV s)] (vS r):=by
 unfold pT at h
 refine pq aN Tryz.func284 rfl fun w X hC=> ?_
 refine rq hC [.z (.b (true))] [1,2] [(1,V.tp (m5 s))] [] [] (qs ?_)
 obtain⟨x1,hx1,h⟩:=bd h
 refine rq hC [oV (oI G hx1)] [3,4,5] [(5,vB (!x1))] [] [] (aT h (fun c1 h=> ?_) (fun c1 h=> ?_))
 ·obtain rfl:=so h
  exact rq hC [] [2] [(2,vS [])] [] [] (qr eR)
 ·refine qk (qs ?_)
  obtain⟨x2,hx2,x3,hx3,x4,hx4,h⟩:=jH h
  obtain⟨x5,hx5,h⟩:=bd h
  obtain rfl:=so h
  exact dk hC bD [oV (lC G hx2),oS hx3,oV (G8 G n s.value hx4),oS hx5] [2,6,7,8,9,10,11,12,13] [(2,vS x5)] [] [] (qr eR)
theorem tO{text}{r}(h:lO n text=some r):PQ G 242 [vS text] (V.tup [V.agg (cV r.1),vB r.2]):=by
 unfold lO at h
 refine pq aN Tryz.func242 rfl fun w X hC=> ?_
 refine rq hC [.z (.nat 20)] [2,3] [(2,V.ref 20 0)] [(20,sc [vS [],V.t T.nilS,vI 0,vI 0,V.t T.nilS,vI 0,vS [],V.t T.nilS,V.t T.nilS])] [(20,true)] (qs (rq hC [] [9,10,11] [(11,vB (decide ((text.length:Int)<4)))] [] [] (aT h (fun c1 h=> ?_) (fun c1 h=> ?_))))
 ·obtain rfl:=so h
  exact rq hC [] [3,12] [(3,vB false)] [(20,sc [vS [],V.t T.nilS,vI 0,vI 0,V.t T.nilS,vI 0,vS [],V.t T.nilS,V.t T.nilS])] [] (qr eR)
 ·refine qk ?_
  obtain⟨x1,hx1,h⟩:=bd h
  refine rq hC [oV (oD G hx1),.z (.nat 21)] [4,5,13,14,15,16,17] [(4,V.ref 21 0),(5,vI x1.2)] [(21,some (E.cells (b8 x1.1)))] [(21,true)] (qs (vj h (fun x_=>bA [(0,vS text),(2,V.ref 20 0),(4,V.ref 21 0),(5,vI x1.2),(25,vB x_)] [(20,E.cells [vS [],V.t T.nilS,vI 0,vI 0,V.t T.nilS,vI 0,vS [],V.t T.nilS,V.t T.nilS]),(21,E.cells (b8 x1.1))] [20,21]) (fun j2 h=> ?_) (fun x3 h=> ?_)))
  ·
   refine aR h (fun c2 h=> ?_) (fun c2 h=> ?_)
   ·exact rk hC (rF 5 c2) (fr 18 8) [(25,vB (decide ((text.length:Int)≤x1.2)))] [] [] (lE h)
   ·exact rk hC (rT 5 c2) (fr 18 8) [(25,vB true)] [] [] (lE h)
  ·refine aT h (fun c3 h=> ?_) (fun c3 h=> ?_)
   ·obtain rfl:=so h
    exact rq hC [] [3,26] [(3,vB false)] [(20,sc [vS [],V.t T.nilS,vI 0,vI 0,V.t T.nilS,vI 0,vS [],V.t T.nilS,V.t T.nilS])] [] (qr eR)
   ·refine qk ?_
    obtain⟨x4,hx4,h⟩:=bd h
    refine rq hC [oV (aAA G n text (wr (x1.2+1)) 5 hx4),.z (.nat 22)] [6,7,27,28,29,30,31,32,33] [(6,V.ref 22 0)] [(22,some (E.cells (cN x4.1)))] [(22,true)] (rq hC [.z (.nat 23)] [8,34,35,36] [(8,V.ref 23 0)] [(23,sc [vS x1.1.array,vM aA x1.1.subs,vI x4.1.kind,vI x4.1.num,vM rI x4.1.index.coefs,vI x4.1.index.const,vS x4.1.read.array,vM aA x4.1.read.subs,vM aH x4.1.kids])] [(23,true)] (qs ?_))
    obtain⟨x5,hx5,h⟩:=bd h
    refine rq hC [oV (I1 G hx5)] (fr 37 4) [(40,vB (!decide (x5=text)))] [] [] (aT h (fun c4 h=> ?_) (fun c4 h=> ?_))
    ·obtain rfl:=so h
     exact rq hC [] [3,41] [(3,vB false)] [(20,sc [vS [],V.t T.nilS,vI 0,vI 0,V.t T.nilS,vI 0,vS [],V.t T.nilS,V.t T.nilS])] [] (qr eR)
    ·obtain rfl:=so h
     exact qk (rq hC [] [3,42] [(3,vB true)] [(20,sc [vS x1.1.array,vM aA x1.1.subs,vI x4.1.kind,vI x4.1.num,vM rI x4.1.index.coefs,vI x4.1.index.const,vS x4.1.read.array,vM aA x4.1.read.subs,vM aH x4.1.kids])] [] (qr eR))
theorem aAG{sizes}{r}(h:sZ n sizes=some r):VQ G 243 [] [vM rI sizes] (V.tup [ms 0 1 2 aC r.1,vB r.2]) [ar 147 1 2 aC r.1]:=by
 unfold sZ at h
 refine vq aN Tryz.func243 rfl fun w X β0 hC hg=> ?_
 refine rq hC [] [2,3] [] [] [] (rq hC [.z (.nat 20)] [4,6] [(4,ms 20 1 2 aC [])] [(20,some (ar 147 1 2 aC []))] [(20,true)] (qs (rq hC [oN rI sizes] [7,8,9] [(9,vB (decide ((4:Int)<(sizes.length:Int))))] [] [] (aT h (fun c1 h=> ?_) (fun c1 h=> ?_)))))
 ·obtain rfl:=so h
  exact rq hC [] [2,3,10] [(2,ms 20 1 2 aC []),(3,vB false)] [] [] (qw (lk hC [.ren 2 20 0] [2] [(2,ms 0 1 2 aC [])] [(0,some (ar 147 1 2 aC [])),(20,none)] [(0,true)]) (qr eW))
 ·refine qk (qs (rq hC [] [5] [(5,vI 0)] [] [] (qb (bC (γ:=Nat) h (fun x_ g_=>bA [(0,vM rI sizes),(4,ms 20 g_ 2 aC x_.1),(5,vI x_.2)] [(20,ar 147 g_ 2 aC x_.1)] [20]) 1 (lS) ?_))))
  rintro again4 ⟨x1,x2⟩ g3 h
  refine qs (rq hC [oN rI sizes] (fr 11 4) [(14,vB (decide (x2<(sizes.length:Int))))] [] [] (aT h (fun c2 h=> ?_) (fun c2 h=> ?_)))
  ·refine qk (qs (qb (qs (vj h (fun x_=>bA [(0,vM rI sizes),(4,ms 20 g3 2 aC x1),(5,vI x2),(28,vB x_)] [(20,ar 147 g3 2 aC x1)] [20]) (fun j5 h=> ?_) (fun x7 h=> ?_)))))
   ·
    obtain⟨x6,hx6,h⟩:=bd h
    refine aR h (fun c3 h=> ?_) (fun c3 h=> ?_)
    ·exact rk hC ([oR rI hx6]++rF 3 c3++[oR rI hx6]++rF 3 c3) (fr 17 12) [(28,vB (decide ((99:Int)<x6)))] [] [] (lE h)
    ·exact rk hC ([oR rI hx6]++rT 6 c3) (fr 17 12) [(28,vB true)] [] [] (lE h)
   ·refine aT h (fun c4 h=> ?_) (fun c4 h=> ?_)
    ·obtain rfl:=so h
     exact rq hC [.z (.nat 21)] [2,3,29] [(2,ms 21 1 2 aC []),(3,vB false)] [(21,some (ar 147 1 2 aC []))] [(21,true)] (qw (lk hC [.ren 2 21 0] [2] [(2,ms 0 1 2 aC [])] [(0,some (ar 147 1 2 aC [])),(21,none)] [(0,true)]) (qr eW))
    ·refine qk ?_
     obtain⟨x8,hx8,x9,hx9,x10,hx10,h⟩:=jH h
     obtain⟨x11,hx11,h⟩:=bd h
     exact dk hC bD [oC [] [21] (iX G n hx8),.z (.at 11),.z (.fz 21 [31] []),.z (.int 0),oR rI hx9,oC [] [22] (cU G hx10),.z (.at 5),.z (.fz 22 [37] []),.z (.int 0),.z (.int 0),oA (aO aC hx11),oQ (bO (r:=aC) 2 bV x1),oQ (bO (r:=aC) 2 bV [(⟨[x8],[x10]⟩:Loop)])] [4,30,31,32,33,34,35,36,37,38,39,40,41] [(4,ms 20 (g3+1) 2 aC x11)] [(21,none),(22,none),(20,some (ar 147 (g3+1) 2 aC x11))] [(21,true),(22,true)] (rk hC [] [5,15,16] [(5,vI (wr (x2+1)))] [] [] ⟨(x11,wr (x2+1)),(g3+1),h,lS⟩)
  ·obtain rfl:=so h
   exact cQ (rq hC [] [2,3,42] [(2,ms 20 g3 2 aC x1),(3,vB true)] [] [] (qw (lk hC [.ren 2 20 0] [2] [(2,ms 0 1 2 aC x1)] [(0,some (ar 147 1 2 aC x1)),(20,none)] [(0,true)]) (qr eW)))
theorem aAD{p}{r}(h:o5 n p=some r):PQ G 224 [vM rI p] (vB r):=by
 unfold o5 at h
 refine pq aN Tryz.func224 rfl fun w X hC=> ?_
 refine rq hC [] [2] [] [] [] (qs (rq hC [] [3] [(3,vI 0)] [] [] (qb (jI h (fun x_=>bA [(0,vM rI p),(3,vI x_)] [] []) lS ?_))))
 rintro again2 x1 h
 refine qs (rq hC [oN rI p] (fr 4 4) [(7,vB (decide (x1<(p.length:Int))))] [] [] (aT h (fun c1 h=> ?_) (fun c1 h=> ?_)))
 ·refine qk (qs (qb ?_))
  obtain⟨x3,hx3,x4,hx4,h⟩:=cT h
  refine rq hC [oR rI hx3,oV (mL G hx4)] (fr 10 6) [(15,vB (!x4))] [] [] (aT h (fun c2 h=> ?_) (fun c2 h=> ?_))
  ·obtain rfl:=so h
   exact rq hC [] [2] [(2,vB false)] [] [] (qr eR)
  ·exact qk (rk hC [] [3,8,9] [(3,vI (wr (x1+1)))] [] [] (lE h))
 ·obtain rfl:=so h
  exact cQ (rq hC [oN rI p] [2,16,17,18] [(2,vB (decide ((p.length:Int)≤4)))] [] [] (qr eR))
theorem aAz(G:GS): ∀(n:Nat) (out:List Access) (outG:Nat) (e:Expr) {r:(List Access)} (h:s_l3Reads n out e=some r),VQ G 225 [ar 107 outG 2 aY out] [ms 0 outG 2 aY out,V.agg (cN e)] (ms 0 (outG+1) 2 aY r) [ar 107 (outG+1) 2 aY r]:=by
 intro n
 induction n with
 |zero=>intro out outG e r h;rw [s_l3Reads.eq_def] at h;cases h
 |succ n ih=>
  intro out outG e r h
  rw [s_l3Reads.eq_def] at h;dsimp only at h
  refine vq aN Tryz.func225 rfl fun w X β0 hC hg=> ?_
  refine rq hC [.z (.b (true))] [3,4] [(3,V.tp (eU e))] [] [] ?_
  obtain⟨j1,hj1,h⟩:=J9 h
  refine m4 (γ:=Nat) (j:=j1) (r:=r) (fun x_ g_=>bA [(0,ms 0 g_ 2 aY x_),(3,V.tp (eU e))] [(0,ar 107 g_ 2 aY x_)] [0]) ?_ ?_
  ·
   refine rq hC [] [6,7,8] [(8,vB (decide (e.kind=3)))] [] [] (aT h (fun c1 h=> ?_) (fun c1 h=> ?_))
   ·obtain⟨x2,hx2,x3,hx3,h⟩:=cT h
    exact rk hC [oC [] [20] (lB G hx2),.z (.at 3),.z (.fz 20 [12] []),.z (.int 0),oA (aO aY hx3),oQ (bO (r:=aY) 2 n4 out),oQ (bO (r:=aY) 2 n4 [x2])] [0,9,10,11,12,13,14] [(0,ms 0 (outG+1) 2 aY x3)] [(20,none),(0,some (ar 107 (outG+1) 2 aY x3))] [(20,true)] ⟨x3,(outG+1),h,lS⟩
   ·exact qk ⟨out,outG,h,lS⟩
  ·rintro x4 g5 h
   subst hj1
   refine qs (rq hC [] [5] [(5,vI 0)] [] [] (qb (bC (γ:=Nat) h (fun x_ g_=>bA [(0,ms 0 g_ 2 aY x_.1),(3,V.tp (eU e)),(5,vI x_.2)] [(0,ar 107 g_ 2 aY x_.1)] [0]) g5 (lS) ?_)))
   rintro again9 ⟨x6,x7⟩ g8 h
   refine qs (rq hC [oN aH e.kids] (fr 15 5) [(19,vB (decide (x7<(e.kids.length:Int))))] [] [] (aT h (fun c2 h=> ?_) (fun c2 h=> ?_)))
   ·refine qk (qs (qb ?_))
    obtain⟨x10,hx10,x11,hx11,h⟩:=cT h
    exact rk hC [.z (.row (d6 x10)),oQ (eV aH hx10 (cS x10)),oC [0] [] (ih x6 g8 x10 hx11)] [0,22,23,24,25,26,27,28] [(0,ms 0 (g8+1) 2 aY x11)] [(0,some (ar 107 (g8+1) 2 aY x11))] [(0,true)] (rk hC [] [5,20,21] [(5,vI (wr (x7+1)))] [] [] ⟨(x11,wr (x7+1)),(g8+1),h,lS⟩)
   ·obtain rfl:=so h
    exact cQ (rq hC [] [4,29] [(4,ms 0 g8 2 aY x6)] [] [] (qw (sV 4 0 outG g8 2 0 (List.map aY x6).length (e:= .arr 107 g8 2 (List.map aY x6)) rfl (by kernel_rfl) (by kernel_rfl) rfl rfl hg.1) (qr eW)))
theorem aB2{a}{r}(h:rK n a=some r):PQ G 236 [V.agg [vS a.name,vM rI a.dims]] (vI r):=by
 unfold rK at h
 refine pq aN Tryz.func236 rfl fun w X hC=> ?_
 refine rq hC [.z (.b (true))] [1,2] [(1,V.tp [T.str a.name,T.sl (List.map rI a.dims)])] [] [] (rq hC [] [3] [(3,vI 1)] [] [] (qs (rq hC [] [4] [(4,vI 0)] [] [] (qb (jI h (fun x_=>bA [(1,V.tp [T.str a.name,T.sl (List.map rI a.dims)]),(3,vI x_.1),(4,vI x_.2)] [] []) lS ?_)))))
 rintro again3 ⟨x1,x2⟩ h
 refine qs (rq hC [oN rI a.dims] (fr 5 5) [(9,vB (decide (x2<(a.dims.length:Int))))] [] [] (aT h (fun c1 h=> ?_) (fun c1 h=> ?_)))
 ·refine qk (qs (qb ?_))
  obtain⟨x4,hx4,h⟩:=bd h
  exact rk hC [oR rI hx4] [3,12,13,14,15,16,17,18] [(3,vI (wr (x1*x4)))] [] [] (rk hC [] [4,10,11] [(4,vI (wr (x2+1)))] [] [] (lE h))
 ·obtain rfl:=so h
  exact cQ (rq hC [] [2,19] [(2,vI x1)] [] [] (qr eR))
theorem nT{a}{point}{r}(h:gI n a point=some r):PQ G 239 [V.agg (aK a),vM rI point] (vI r):=by
 unfold gI at h
 refine pq aN Tryz.func239 rfl fun w X hC=> ?_
 refine rq hC [.z (.b (true))] [2,4] [(2,V.tp (aQ a))] [] [] (rq hC [] [5,7,8] [(5,vI a.const)] [] [] (qs (rq hC [] [6] [(6,vI 0)] [] [] (qb (jI h (fun x_=>bA [(1,vM rI point),(2,V.tp (aQ a)),(5,vI x_.1),(6,vI x_.2)] [] []) lS ?_)))))
 rintro again3 ⟨x1,x2⟩ h
 refine qs (vj h (fun x_=>bA [(1,vM rI point),(2,V.tp (aQ a)),(5,vI x1),(6,vI x2),(19,vB x_)] [] []) (fun j4 h=> ?_) (fun x5 h=> ?_))
 ·
  refine aR h (fun c1 h=> ?_) (fun c1 h=> ?_)
  ·exact rk hC ([oN rI point]++rF 6 c1) (fr 9 11) [(19,vB false)] [] [] (lE h)
  ·exact rk hC ([oN rI point]++rT 4 c1++[oN rI a.coefs,oT c1,oT c1]) (fr 9 11) [(19,vB (decide (x2<(a.coefs.length:Int))))] [] [] (lE h)
 ·refine aT h (fun c2 h=> ?_) (fun c2 h=> ?_)
  ·refine qk (qs (qb ?_))
   obtain⟨x6,hx6,x7,hx7,h⟩:=cT h
   exact dk hC bD [oR rI hx6,oR rI hx7] [5,22,23,24,25,26,27,28,29,30,31,32,33] [(5,vI (wr (x1+(wr (x6*x7)))))] [] [] (rk hC [] [6,20,21] [(6,vI (wr (x2+1)))] [] [] (lE h))
  ·obtain rfl:=so h
   exact cQ (rq hC [] [4,34] [(4,vI x1)] [] [] (qr eR))
theorem G7{list}{a}{point}{r}(h:o1 n list a point=some r):PQ G 170 [vM aJ list,V.agg (b8 a),vM rI point] (vI r):=by
 unfold o1 at h
 refine pq aN Tryz.func170 rfl fun w X hC=> ?_
 refine rq hC [.z (.b (true))] [4,6] [(4,V.tp (dC a))] [] [] (rq hC [] [7] [(7,vI 0)] [] [] (qs (rq hC [] [8] [(8,vI 0)] [] [] (qb (jI h (fun x_=>bA [(0,vM aJ list),(2,vM rI point),(4,V.tp (dC a)),(7,vI x_.1),(8,vI x_.2)] [] []) lS ?_)))))
 rintro again3 ⟨x1,x2⟩ h
 refine qs (rq hC [oN aJ list] (fr 12 4) [(15,vB (decide (x2<(list.length:Int))))] [] [] (aT h (fun c1 h=> ?_) (fun c1 h=> ?_)))
 ·refine qk (qs (qb (qs (qs ?_))))
  obtain⟨x4,hx4,h⟩:=bd h
  refine dk hC bD [oR aJ hx4] (fr 18 8) [(25,vB (!decide (x4.name=a.array)))] [] [] (aT h (fun c2 h=> ?_) (fun c2 h=> ?_))
  ·obtain⟨x5,hx5,h⟩:=bd h
   exact rq hC [oR aJ hx4,oV (aB2 G hx5)] [7,26,27,28,29,30,31,32] [(7,vI (wr (x1+x5)))] [] [] (cQ (rk hC [] [8,16,17] [(8,vI (wr (x2+1)))] [] [] (lE h)))
  ·refine qk (rq hC [] [9] [(9,vI 0)] [] [] (qs (rq hC [] [10] [(10,vI 0)] [] [] (qb (jI h (fun x_=>bA [(0,vM aJ list),(2,vM rI point),(4,V.tp (dC a)),(7,vI x1),(8,vI x2),(9,vI x_.1),(10,vI x_.2)] [] []) lS ?_)))))
   rintro again8 ⟨x6,x7⟩ h
   refine qs (rq hC [oN aA a.subs] (fr 33 5) [(37,vB (decide (x7<(a.subs.length:Int))))] [] [] (aT h (fun c3 h=> ?_) (fun c3 h=> ?_)))
   ·refine qk (qs (qb (qs (qs (dk hC bD [oN aA a.subs,oR aJ hx4,oN rI x4.dims] (fr 40 10) [(49,vB (!decide ((a.subs.length:Int)=(x4.dims.length:Int))))] [] [] ?_)))))
    refine aT h (fun c4 h=> ?_) (fun c4 h=> ?_)
    ·obtain rfl:=so h
     exact rq hC [] [6] [(6,vI (-1))] [] [] (qr eR)
    ·refine qk ?_
     obtain⟨x9,hx9,x10,hx10,h⟩:=cT h
     refine rq hC [oR aA hx9,oV (nT G hx10)] [11,50,51,52,53,54,55,56] [(11,vI x10)] [] [] (qs (vj h (fun x_=>bA [(0,vM aJ list),(2,vM rI point),(4,V.tp (dC a)),(7,vI x1),(8,vI x2),(9,vI x6),(10,vI x7),(11,vI x10),(70,vB x_)] [] []) (fun j11 h=> ?_) (fun x13 h=> ?_)))
     ·
      refine aR h (fun c5 h=> ?_) (fun c5 h=> ?_)
      ·obtain⟨x12,hx12,h⟩:=bd h
       exact rk hC (rF 4 c5++[oR aJ hx4]++rF 4 c5++[oR rI hx12]++rF 3 c5) (fr 57 14) [(70,vB (decide (x12≤x10)))] [] [] (lE h)
      ·exact rk hC (rT 11 c5) (fr 57 14) [(70,vB true)] [] [] (lE h)
     ·refine aT h (fun c6 h=> ?_) (fun c6 h=> ?_)
      ·obtain rfl:=so h
       exact rq hC [] [6] [(6,vI (-1))] [] [] (qr eR)
      ·refine qk ?_
       obtain⟨x14,hx14,h⟩:=bd h
       exact rk hC [oR aJ hx4,oR rI hx14] [9,71,72,73,74,75,76,77,78,79,80,81,82] [(9,vI (wr ((wr (x6*x14))+x10)))] [] [] (rk hC [] [10,38,39] [(10,vI (wr (x7+1)))] [] [] (lE h))
   ·obtain rfl:=so h
    exact cQ (rq hC [] [6,83,84,85] [(6,vI (wr (x1+x6)))] [] [] (qr eR))
 ·obtain rfl:=so h
  exact cQ (rq hC [] [6] [(6,vI (-1))] [] [] (qr eR))
theorem aAu{list}{s}{point}{r}(h:o0 n list s point=some r):VQ G 157 [] [vM aJ list,V.agg (cV s),vM rI point] (V.tup [ms 0 1 1 rI r.1,vI r.2.1,vB r.2.2]) [ar 3 1 1 rI r.1]:=by
 unfold o0 at h
 refine vq aN Tryz.func157 rfl fun w X β0 hC hg=> ?_
 refine rq hC [.z (.b (true))] [4,6,7,8] [(4,V.tp (m5 s))] [] [] (rq hC [.z (.nat 20)] [9,14] [(9,ms 20 1 1 rI [])] [(20,some (ar 3 1 1 rI []))] [(20,true)] ?_)
 obtain⟨x1,hx1,h⟩:=bd h
 refine rq hC [.z (.nat 21),oC [21] [] (aAz G n [] 1 s.value hx1)] [10,15,16,17,18] [(10,ms 21 2 2 aY x1)] [(21,some (ar 107 2 2 aY x1))] [(21,true),(21,true)] (qs (rq hC [] [11] [(11,vI 0)] [] [] (qb (bC (γ:=Nat) h (fun x_ g_=>bA [(0,vM aJ list),(2,vM rI point),(4,V.tp (m5 s)),(9,ms 20 g_ 1 rI x_.1),(10,ms 21 2 2 aY x1),(11,vI x_.2)] [(20,ar 3 g_ 1 rI x_.1),(21,ar 107 2 2 aY x1)] [20,21]) 1 (lS) ?_))))
 rintro again5 ⟨x2,x3⟩ g4 h
 refine qs (rq hC [oN aY x1] (fr 19 4) [(22,vB (decide (x3<(x1.length:Int))))] [] [] (aT h (fun c1 h=> ?_) (fun c1 h=> ?_)))
 ·refine qk (qs (qb ?_))
  obtain⟨x6,hx6,x7,hx7,h⟩:=cT h
  refine rq hC [oQ (l7 aY hx6),oX aY hx6,oV (G7 G hx7)] [12,25,26,27,28,29,30,31] [(12,vI x7)] [] [] (qs (rq hC [] [32,33] [(33,vB (decide (x7<0)))] [] [] (aT h (fun c2 h=> ?_) (fun c2 h=> ?_))))
  ·obtain rfl:=so h
   exact rq hC [.z (.nat 22)] [6,7,8,34] [(6,ms 22 1 1 rI []),(7,vI 0),(8,vB false)] [(22,some (ar 3 1 1 rI []))] [(22,true)] (qw (lk hC [.ren 6 22 0] [6] [(6,ms 0 1 1 rI [])] [(0,some (ar 3 1 1 rI [])),(22,none)] [(0,true)]) (qr eW))
  ·refine qk ?_
   obtain⟨x8,hx8,h⟩:=bd h
   exact rk hC [.z (.int 0),oA (aO rI hx8),oQ (bO (r:=rI) 1 (fun _=>rfl) x2),oQ (bO (r:=rI) 1 (fun _=>rfl) [x7])] [9,35,36,37,38] [(9,ms 20 (g4+1) 1 rI x8)] [(20,some (ar 3 (g4+1) 1 rI x8))] [] (rk hC [] [11,23,24] [(11,vI (wr (x3+1)))] [] [] ⟨(x8,wr (x3+1)),(g4+1),h,lS⟩)
 ·refine cQ ?_
  obtain⟨x9,hx9,h⟩:=bd h
  refine rq hC [oV (G7 G hx9)] [13,39,40,41,42,43] [(13,vI x9)] [] [] (qs (rq hC [] [44,45] [(45,vB (decide (x9<0)))] [] [] (aT h (fun c3 h=> ?_) (fun c3 h=> ?_))))
  ·obtain rfl:=so h
   exact rq hC [.z (.nat 22)] [6,7,8,46] [(6,ms 22 1 1 rI []),(7,vI 0),(8,vB false)] [(22,some (ar 3 1 1 rI []))] [(22,true)] (qw (lk hC [.ren 6 22 0] [6] [(6,ms 0 1 1 rI [])] [(0,some (ar 3 1 1 rI [])),(22,none)] [(0,true)]) (qr eW))
  ·obtain rfl:=so h
   exact qk (rq hC [] [6,7,8,47,48] [(6,ms 20 g4 1 rI x2),(7,vI x9),(8,vB true)] [] [] (qw (lk hC [.ren 6 20 0] [6] [(6,ms 0 1 1 rI x2)] [(0,some (ar 3 1 1 rI x2)),(20,none)] [(0,true)]) (qr eW)))
theorem yN{loop}{p}{r}(h:mU n loop p=some r):PQ G 237 [V.agg (jF loop),vM rI p] (V.tup [vI r.1,vI r.2]):=by
 unfold mU at h
 refine pq aN Tryz.func237 rfl fun w X hC=> ?_
 refine rq hC [.z (.b (true))] [2,4,5] [(2,V.tp (tG loop))] [] [] ?_
 obtain⟨x1,hx1,x2,hx2,h⟩:=cT h
 refine rq hC [oR aA hx1,oV (nT G hx2)] [6,12,13,14,15,16,17] [(6,vI x2)] [] [] ?_
 obtain⟨x3,hx3,x4,hx4,h⟩:=cT h
 refine rq hC [oR aA hx3,oV (nT G hx4)] [7,18,19,20,21,22,23] [(7,vI x4)] [] [] (qs (rq hC [] [8] [(8,vI 1)] [] [] (qb (jI h (fun x_=>bA [(1,vM rI p),(2,V.tp (tG loop)),(6,vI x_.1),(7,vI x4),(8,vI x_.2)] [] []) lS ?_))))
 rintro again7 ⟨x5,x6⟩ h
 refine qs (rq hC [oN aA loop.lo] (fr 24 5) [(28,vB (decide (x6<(loop.lo.length:Int))))] [] [] (aT h (fun c1 h=> ?_) (fun c1 h=> ?_)))
 ·refine qk (vj h (fun x_=>bA [(1,vM rI p),(2,V.tp (tG loop)),(6,vI x_),(7,vI x4),(8,vI x6)] [] []) (fun j8 h=> ?_) (fun x11 h=> ?_))
  ·
   refine qb ?_
   obtain⟨x9,hx9,x10,hx10,h⟩:=cT h
   refine rq hC [oR aA hx9,oV (nT G hx10)] [9,31,32,33,34,35,36,37] [(9,vI x10)] [] [] (rq hC [] [38,39,40] [(40,vB (decide (x5<x10)))] [] [] (aT h (fun c2 h=> ?_) (fun c2 h=> ?_)))
   ·exact rk hC [] [6,41] [(6,vI x10)] [] [] (lE h)
   ·exact qk (lE h)
  ·exact rk hC [] [8,29,30] [(8,vI (wr (x6+1)))] [] [] (lE h)
 ·refine cQ (qs (rq hC [] [10] [(10,vI 1)] [] [] (qb (jI h (fun x_=>bA [(1,vM rI p),(2,V.tp (tG loop)),(6,vI x5),(7,vI x_.1),(10,vI x_.2)] [] []) lS ?_))))
  rintro again14 ⟨x12,x13⟩ h
  refine qs (rq hC [oN aA loop.hi] (fr 42 5) [(46,vB (decide (x13<(loop.hi.length:Int))))] [] [] (aT h (fun c3 h=> ?_) (fun c3 h=> ?_)))
  ·refine qk (vj h (fun x_=>bA [(1,vM rI p),(2,V.tp (tG loop)),(6,vI x5),(7,vI x_),(10,vI x13)] [] []) (fun j15 h=> ?_) (fun x18 h=> ?_))
   ·
    refine qb ?_
    obtain⟨x16,hx16,x17,hx17,h⟩:=cT h
    refine rq hC [oR aA hx16,oV (nT G hx17)] [11,49,50,51,52,53,54,55] [(11,vI x17)] [] [] (rq hC [] [56,57,58] [(58,vB (decide (x17<x12)))] [] [] (aT h (fun c4 h=> ?_) (fun c4 h=> ?_)))
    ·exact rk hC [] [7,59] [(7,vI x17)] [] [] (lE h)
    ·exact qk (lE h)
   ·exact rk hC [] [10,47,48] [(10,vI (wr (x13+1)))] [] [] (lE h)
  ·obtain rfl:=so h
   exact cQ (rq hC [] [4,5,60,61] [(4,vI x5),(5,vI x12)] [] [] (qr eR))
theorem aB7(G:GS): ∀(n:Nat) (nest:List Loop) (p:List Int) (most:Int) {r:Int} (h:s_l2Work n nest p most=some r),PQ G 272 [vM aC nest,vM rI p,vI most] (vI r):=by
 intro n
 induction n with
 |zero=>intro nest p most r h;rw [s_l2Work.eq_def] at h;cases h
 |succ n ih=>
  intro nest p most r h
  rw [s_l2Work.eq_def] at h;dsimp only at h
  refine pq aN Tryz.func272 rfl fun w X hC=> ?_
  refine rq hC [] [6] [] [] [] (rq hC [] [7] [(7,vI 1)] [] [] (qs (rq hC [oN rI p,oN aC nest] (fr 11 5) [(15,vB (decide ((p.length:Int)=(nest.length:Int))))] [] [] (aT h (fun c1 h=> ?_) (fun c1 h=> ?_)))))
  ·obtain rfl:=so h
   exact rq hC [] [6,16] [(6,vI 1)] [] [] (qr eR)
  ·refine qk ?_
   obtain⟨x1,hx1,x2,hx2,h⟩:=cT h
   refine rq hC [oN rI p,oR aC hx1,oV (yN G hx2)] [8,9,17,18,19,20,21,22,23,24,25,26] [(8,vI x2.1),(9,vI x2.2)] [] [] (qs (rq hC [] [10,27] [(10,vI x2.1)] [] [] (qb (jI h (fun x_=>bA [(0,vM aC nest),(1,vM rI p),(2,vI most),(7,vI x_.1),(9,vI x2.2),(10,vI x_.2)] [] []) lS ?_))))
   rintro again5 ⟨x3,x4⟩ h
   refine qs (vj h (fun x_=>bA [(0,vM aC nest),(1,vM rI p),(2,vI most),(7,vI x3),(9,vI x2.2),(10,vI x4),(35,vB x_)] [] []) (fun j6 h=> ?_) (fun x7 h=> ?_))
   ·
    refine aR h (fun c2 h=> ?_) (fun c2 h=> ?_)
    ·exact rk hC (rF 4 c2) (fr 28 8) [(35,vB false)] [] [] (lE h)
    ·exact rk hC (rT 4 c2) (fr 28 8) [(35,vB (decide (x3≤most)))] [] [] (lE h)
   ·refine aT h (fun c3 h=> ?_) (fun c3 h=> ?_)
    ·refine qk (qs (qb ?_))
     obtain⟨x8,hx8,x9,hx9,x10,hx10,h⟩:=jH h
     exact rk hC [.z (.nat 20),oA (aO rI hx8),.z (.int 0),oQ (bO (r:=rI) 1 (fun _=>rfl) []),oQ (bO (r:=rI) 1 (fun _=>rfl) p),oA (aO rI hx9),.z (.b (true)),oQ (bO (r:=rI) 1 (fun _=>rfl) x8),oQ (bO (r:=rI) 1 (fun _=>rfl) [x4]),oV (ih nest x9 (wr (most-x3)) hx10)] [7,38,39,40,41,42,43,44,45,46,47,48,49,50] [(7,vI (wr (x3+x10)))] [(20,some (ar 3 3 1 rI x9))] [(20,true)] (rk hC [] [10,36,37] [(10,vI (wr (x4+1)))] [] [] (lE h))
    ·obtain rfl:=so h
     exact cQ (rq hC [] [6,51] [(6,vI x3)] [] [] (qr eR))
theorem U6(G:GS): ∀(n:Nat) (out:List (List Int)) (outG:Nat) (nest:List Loop) (p:List Int) {r:(List (List Int))} (h:s_l2Points n out nest p=some r),VQ G 168 [ar 27 outG 1 (rL rI) out] [ms 0 outG 1 (rL rI) out,vM aC nest,vM rI p] (ms 0 (outG+1) 1 (rL rI) r) [ar 27 (outG+1) 1 (rL rI) r]:=by
 intro n
 induction n with
 |zero=>intro out outG nest p r h;rw [s_l2Points.eq_def] at h;cases h
 |succ n ih=>
  intro out outG nest p r h
  rw [s_l2Points.eq_def] at h;dsimp only at h
  refine vq aN Tryz.func168 rfl fun w X β0 hC hg=> ?_
  refine rq hC [] [6] [] [] [] (qs (rq hC [oN rI p,oN aC nest] (fr 10 5) [(14,vB (decide ((p.length:Int)=(nest.length:Int))))] [] [] (aT h (fun c1 h=> ?_) (fun c1 h=> ?_))))
  ·obtain⟨x1,hx1,x2,hx2,h⟩:=cT h
   obtain rfl:=so h
   exact rq hC [.z (.nat 20),oA (aO rI hx1),.z (.at 3),.z (.fz 20 [18] []),.z (.int 0),oQ (bO (r:=rI) 1 (fun _=>rfl) []),oQ (bO (r:=rI) 1 (fun _=>rfl) p),oA (aO (rL rI) hx2),oQ (bO (r:=(rL rI)) 1 (fun _=>rfl) out),oQ (bO (r:=(rL rI)) 1 (fun _=>rfl) [x1])] [0,6,15,16,17,18,19,20] [(6,ms 0 (outG+1) 1 (rL rI) x2)] [(20,none),(0,some (ar 27 (outG+1) 1 (rL rI) x2))] [(20,true)] (qw (sV 6 0 outG (outG+1) 1 0 (List.map (rL rI) x2).length (e:= .arr 27 (outG+1) 1 (List.map (rL rI) x2)) rfl (by kernel_rfl) (by kernel_rfl) rfl rfl hg.1) (qr eW))
  ·refine qk ?_
   obtain⟨x3,hx3,x4,hx4,h⟩:=cT h
   refine rq hC [oN rI p,oR aC hx3,oV (yN G hx4)] [7,8,21,22,23,24,25,26,27,28,29,30] [(7,vI x4.1),(8,vI x4.2)] [] [] (qs (rq hC [] [9,31] [(9,vI x4.1)] [] [] (qb (bC (γ:=Nat) h (fun x_ g_=>bA [(0,ms 0 g_ 1 (rL rI) x_.1),(1,vM aC nest),(2,vM rI p),(8,vI x4.2),(9,vI x_.2)] [(0,ar 27 g_ 1 (rL rI) x_.1)] [0]) outG (lS) ?_))))
   rintro again8 ⟨x5,x6⟩ g7 h
   refine qs (vj h (fun x_=>bA [(0,ms 0 g7 1 (rL rI) x5),(1,vM aC nest),(2,vM rI p),(8,vI x4.2),(9,vI x6),(39,vB x_)] [(0,ar 27 g7 1 (rL rI) x5)] [0]) (fun j9 h=> ?_) (fun x10 h=> ?_))
   ·
    refine aR h (fun c2 h=> ?_) (fun c2 h=> ?_)
    ·exact rk hC (rF 4 c2) (fr 32 8) [(39,vB false)] [] [] (lE h)
    ·exact rk hC [oT c2,oT c2,oN (rL rI) x5,oT c2,oT c2] (fr 32 8) [(39,vB (decide ((x5.length:Int)≤120)))] [] [] (lE h)
   ·refine aT h (fun c3 h=> ?_) (fun c3 h=> ?_)
    ·refine qk (qs (qb ?_))
     obtain⟨x11,hx11,x12,hx12,x13,hx13,h⟩:=jH h
     exact rk hC [.z (.nat 20),oA (aO rI hx11),.z (.int 0),oQ (bO (r:=rI) 1 (fun _=>rfl) []),oQ (bO (r:=rI) 1 (fun _=>rfl) p),oA (aO rI hx12),.z (.at 2),.z (.fz 20 [49] []),oQ (bO (r:=rI) 1 (fun _=>rfl) x11),oQ (bO (r:=rI) 1 (fun _=>rfl) [x6]),oC [0] [] (ih x5 g7 nest x12 hx13)] [0,42,43,44,45,46,47,48,49,50] [(0,ms 0 (g7+1) 1 (rL rI) x13)] [(20,none),(0,some (ar 27 (g7+1) 1 (rL rI) x13))] [(20,true),(0,true)] (rk hC [] [9,40,41] [(9,vI (wr (x6+1)))] [] [] ⟨(x13,wr (x6+1)),(g7+1),h,lS⟩)
    ·obtain rfl:=so h
     exact cQ (rq hC [] [6,51] [(6,ms 0 g7 1 (rL rI) x5)] [] [] (qw (sV 6 0 outG g7 1 0 (List.map (rL rI) x5).length (e:= .arr 27 g7 1 (List.map (rL rI) x5)) rfl (by kernel_rfl) (by kernel_rfl) rfl rfl hg.1) (qr eW)))
theorem uI{list}{depth}{r}(h:o2 n list depth=some r):PQ G 305 [vM aA list,vI depth] (vB r):=by
 unfold o2 at h
 refine pq aN Tryz.func305 rfl fun w X hC=> ?_
 refine rq hC [] [4] [] [] [] (qs (rq hC [] [5] [(5,vI 0)] [] [] (qb (jI h (fun x_=>bA [(0,vM aA list),(1,vI depth),(5,vI x_)] [] []) lS ?_))))
 rintro again2 x1 h
 refine qs (rq hC [oN aA list] (fr 6 4) [(9,vB (decide (x1<(list.length:Int))))] [] [] (aT h (fun c1 h=> ?_) (fun c1 h=> ?_)))
 ·refine qk (qs (qb (vj h (fun x_=>bA [(0,vM aA list),(1,vI depth),(5,vI x1),(26,vB x_)] [] []) (fun j3 h=> ?_) (fun x7 h=> ?_))))
  ·
   obtain⟨x4,hx4,x5,hx5,h⟩:=cT h
   refine aR h (fun c2 h=> ?_) (fun c2 h=> ?_)
   ·obtain⟨x6,hx6,h⟩:=bd h
    exact rk hC ([oR aA hx4,oV (dM G hx5)]++rF 3 c2++[oR aA hx4,oF c2,oF c2,oV (sN G hx6)]++rF 3 c2) (fr 12 15) [(26,vB (decide (depth<x6)))] [] [] (lE h)
   ·exact rk hC ([oR aA hx4,oV (dM G hx5)]++rT 8 c2) (fr 12 15) [(26,vB true)] [] [] (lE h)
  ·refine aT h (fun c3 h=> ?_) (fun c3 h=> ?_)
   ·obtain rfl:=so h
    exact rq hC [] [4] [(4,vB false)] [] [] (qr eR)
   ·exact qk (rk hC [] [5,10,11] [(5,vI (wr (x1+1)))] [] [] (lE h))
 ·refine cQ (vj h (fun x_=>bA [(4,vB x_)] [] []) (fun j8 h=> ?_) (fun x9 h=> ?_))
  ·
   refine aR h (fun c4 h=> ?_) (fun c4 h=> ?_)
   ·exact rk hC ([oN aA list]++rF 4 c4) [4,27,28,29,30,31,32,33,34] [(4,vB false)] [] [] (lE h)
   ·exact rk hC [oN aA list,oT c4,oT c4,oN aA list,oT c4,oT c4] [4,27,28,29,30,31,32,33,34] [(4,vB (decide ((list.length:Int)≤2)))] [] [] (lE h)
  ·obtain rfl:=so h
   exact qr eR
theorem tP{nest}{r}(h:lP n nest=some r):PQ G 271 [vM aC nest] (vB r):=by
 unfold lP at h
 refine pq aN Tryz.func271 rfl fun w X hC=> ?_
 refine rq hC [] [2] [] [] [] (qs (rq hC [] [3] [(3,vI 0)] [] [] (qb (jI h (fun x_=>bA [(0,vM aC nest),(3,vI x_)] [] []) lS ?_))))
 rintro again2 x1 h
 refine qs (vj h (fun x_=>bA [(0,vM aC nest),(3,vI x1),(12,vB x_)] [] []) (fun j3 h=> ?_) (fun x4 h=> ?_))
 ·
  refine aR h (fun c1 h=> ?_) (fun c1 h=> ?_)
  ·exact rk hC ([oN aC nest]++rF 4 c1) (fr 4 9) [(12,vB false)] [] [] (lE h)
  ·exact rk hC [oN aC nest,oT c1,oT c1,oN aC nest,oT c1,oT c1] (fr 4 9) [(12,vB (decide ((nest.length:Int)≤4)))] [] [] (lE h)
 ·refine aT h (fun c2 h=> ?_) (fun c2 h=> ?_)
  ·refine qk (qs (qb (vj h (fun x_=>bA [(0,vM aC nest),(3,vI x1),(32,vB x_)] [] []) (fun j5 h=> ?_) (fun x9 h=> ?_))))
   ·
    obtain⟨x6,hx6,x7,hx7,h⟩:=cT h
    refine aR h (fun c3 h=> ?_) (fun c3 h=> ?_)
    ·obtain⟨x8,hx8,h⟩:=bd h
     exact rk hC ([oR aC hx6,oV (uI G hx7)]++rF 3 c3++[oR aC hx6]++rF 4 c3++[oV (uI G hx8),oF c3,oF c3]) (fr 15 18) [(32,vB (!x8))] [] [] (lE h)
    ·exact rk hC ([oR aC hx6,oV (uI G hx7)]++rT 9 c3) (fr 15 18) [(32,vB true)] [] [] (lE h)
   ·refine aT h (fun c4 h=> ?_) (fun c4 h=> ?_)
    ·obtain rfl:=so h
     exact rq hC [] [2] [(2,vB false)] [] [] (qr eR)
    ·exact qk (rk hC [] [3,13,14] [(3,vI (wr (x1+1)))] [] [] (lE h))
  ·obtain rfl:=so h
   exact cQ (rq hC [oN aC nest] [2,33,34,35] [(2,vB (decide ((nest.length:Int)≤4)))] [] [] (qr eR))
theorem I0{nest}{r}(h:jO n nest=some r):VQ G 223 [] [vM aC nest] (V.tup [ms 0 1 1 (rL rI) r.1,vB r.2]) [ar 27 1 1 (rL rI) r.1]:=by
 unfold jO at h
 refine vq aN Tryz.func223 rfl fun w X β0 hC hg=> ?_
 refine rq hC [] [2,3] [] [] [] (qs (vj h (fun x_=>bA [(0,vM aC nest),(12,vB x_)] [] []) (fun j1 h=> ?_) (fun x4 h=> ?_)))
 ·
  obtain⟨x2,hx2,h⟩:=bd h
  refine aR h (fun c1 h=> ?_) (fun c1 h=> ?_)
  ·obtain⟨x3,hx3,h⟩:=bd h
   exact rk hC [oV (tP G hx2),oF c1,oF c1,oV (aB7 G n nest [] 1200 hx3),oF c1,oF c1] (fr 5 8) [(12,vB (decide ((1200:Int)<x3)))] [] [] (lE h)
  ·exact rk hC ([oV (tP G hx2)]++rT 4 c1) (fr 5 8) [(12,vB true)] [] [] (lE h)
 ·refine aT h (fun c2 h=> ?_) (fun c2 h=> ?_)
  ·obtain rfl:=so h
   exact rq hC [.z (.nat 20)] [2,3,13] [(2,ms 20 1 1 (rL rI) []),(3,vB false)] [(20,some (ar 27 1 1 (rL rI) []))] [(20,true)] (qw (lk hC [.ren 2 20 0] [2] [(2,ms 0 1 1 (rL rI) [])] [(0,some (ar 27 1 1 (rL rI) [])),(20,none)] [(0,true)]) (qr eW))
  ·refine qk ?_
   obtain⟨x5,hx5,h⟩:=bd h
   refine rq hC [.z (.nat 20),oC [20] [] (U6 G n [] 1 nest [] hx5)] [4,14,15,16] [(4,ms 20 2 1 (rL rI) x5)] [(20,some (ar 27 2 1 (rL rI) x5))] [(20,true),(20,true)] (qs (rq hC [oN (rL rI) x5] [17,18,19] [(19,vB (decide ((120:Int)<(x5.length:Int))))] [] [] (aT h (fun c3 h=> ?_) (fun c3 h=> ?_))))
   ·obtain rfl:=so h
    exact rq hC [.z (.nat 21)] [2,3,20] [(2,ms 21 1 1 (rL rI) []),(3,vB false)] [(21,some (ar 27 1 1 (rL rI) []))] [(21,true)] (qw (lk hC [.ren 2 21 0] [2] [(2,ms 0 1 1 (rL rI) [])] [(0,some (ar 27 1 1 (rL rI) [])),(21,none)] [(0,true)]) (qr eW))
   ·obtain rfl:=so h
    exact qk (rq hC [] [2,3,21] [(2,ms 20 2 1 (rL rI) x5),(3,vB true)] [] [] (qw (lk hC [.ren 2 20 0] [2] [(2,ms 0 1 1 (rL rI) x5)] [(0,some (ar 27 1 1 (rL rI) x5)),(20,none)] [(0,true)]) (qr eW)))
theorem uG{list}{part}{r}(h:m8 n list part=some r):PQ G 156 [vM aJ list,V.agg (kH part)] (V.tup [vI r.1,vB r.2]):=by
 unfold m8 at h
 refine pq aN Tryz.func156 rfl fun w X hC=> ?_
 refine rq hC [.z (.b (true))] [3,4,5] [(3,V.tp (iZ part))] [] [] ?_
 obtain⟨x1,hx1,h⟩:=bd h
 refine rq hC [oC [] [20] (I0 G hx1)] [6,7,13,14,15,16,17,18] [(6,ms 20 1 1 (rL rI) x1.1),(7,vB x1.2)] [(20,some (ar 27 1 1 (rL rI) x1.1))] [(20,true)] (qs (vj h (fun x_=>bA [(0,vM aJ list),(3,V.tp (iZ part)),(6,ms 20 1 1 (rL rI) x1.1),(32,vB x_)] [(20,ar 27 1 1 (rL rI) x1.1)] [20]) (fun j2 h=> ?_) (fun x3 h=> ?_)))
 ·
  refine aR h (fun c1 h=> ?_) (fun c1 h=> ?_)
  ·refine aR h (fun c2 h=> ?_) (fun c2 h=> ?_)
   ·exact rk hC (rF 3 c1++[oN aG part.body,oF c1,oF c1]++rF 3 c2++[oN aG part.body,oF c2,oF c2]) (fr 19 14) [(32,vB (decide ((4:Int)<(part.body.length:Int))))] [] [] (lE h)
   ·exact rk hC (rF 3 c1++[oN aG part.body,oF c1,oF c1]++rT 5 c2) (fr 19 14) [(32,vB true)] [] [] (lE h)
  ·exact rk hC (rT 5 c1++sT 5) (fr 19 14) [(32,vB true)] [] [] (lE h)
 ·refine aT h (fun c3 h=> ?_) (fun c3 h=> ?_)
  ·obtain rfl:=so h
   exact rq hC [] [4,5] [(4,vI 0),(5,vB false)] [] [] (qr eR)
  ·refine qk (qs (rq hC [] [8] [(8,vI 0)] [] [] (qb (jI h (fun x_=>bA [(0,vM aJ list),(3,V.tp (iZ part)),(6,ms 20 1 1 (rL rI) x1.1),(8,vI x_)] [(20,ar 27 1 1 (rL rI) x1.1)] [20]) lS ?_))))
   rintro again5 x4 h
   refine qs (rq hC [oN aG part.body] (fr 33 5) [(37,vB (decide (x4<(part.body.length:Int))))] [] [] (aT h (fun c4 h=> ?_) (fun c4 h=> ?_)))
   ·refine qk (qs (qb (qs (qs ?_))))
    obtain⟨x6,hx6,x7,hx7,h⟩:=cT h
    refine dk hC bD [oR aG hx6,oN aC part.nest,oV (oI G hx7)] (fr 40 10) [(49,vB (!x7))] [] [] (aT h (fun c5 h=> ?_) (fun c5 h=> ?_))
    ·obtain rfl:=so h
     exact rq hC [] [4,5] [(4,vI 0),(5,vB false)] [] [] (qr eR)
    ·refine qk (rq hC [] [9] [(9,vI 0)] [] [] (qb (jI h (fun x_=>bA [(0,vM aJ list),(3,V.tp (iZ part)),(6,ms 20 1 1 (rL rI) x1.1),(8,vI x4),(9,vI x_)] [(20,ar 27 1 1 (rL rI) x1.1)] [20]) lS ?_)))
     rintro again9 x8 h
     refine qs (rq hC [oN (rL rI) x1.1] (fr 50 4) [(53,vB (decide (x8<(x1.1.length:Int))))] [] [] (aT h (fun c6 h=> ?_) (fun c6 h=> ?_)))
     ·refine qk (qs (qb (qs ?_)))
      obtain⟨x10,hx10,x11,hx11,h⟩:=cT h
      refine dk hC bD [oR aG hx6,oQ (l7 (rL rI) hx10),oX (rL rI) hx10,oC [] [21] (aAu G hx11)] [10,11,12,56,57,58,59,60,61,62,63,64,65,66,67,68,69,70] [(12,vB x11.2.2)] [(21,some (ar 3 1 1 rI x11.1))] [(21,true)] (vj h (fun x_=>bA [(0,vM aJ list),(3,V.tp (iZ part)),(6,ms 20 1 1 (rL rI) x1.1),(8,vI x4),(9,vI x8),(80,vB x_)] [(20,ar 27 1 1 (rL rI) x1.1),(21,ar 3 1 1 rI x11.1)] [20,21]) (fun j12 h=> ?_) (fun x14 h=> ?_))
      ·
       refine aR h (fun c7 h=> ?_) (fun c7 h=> ?_)
       ·obtain⟨x13,hx13,h⟩:=bd h
        exact rk hC (rF 3 c7++[oQ (l7 (rL rI) hx10),oF c7,oX (rL rI) hx10,oF c7,oV (aAD G hx13),oF c7,oF c7]) (fr 71 10) [(80,vB (!x13))] [] [] (lE h)
       ·exact rk hC (rT 7 c7) (fr 71 10) [(80,vB true)] [] [] (lE h)
      ·refine aT h (fun c8 h=> ?_) (fun c8 h=> ?_)
       ·obtain rfl:=so h
        exact rq hC [] [4,5] [(4,vI 0),(5,vB false)] [] [] (qr eR)
       ·exact qk (rk hC [] [9,54,55] [(9,vI (wr (x8+1)))] [] [] (lE h))
     ·exact cQ (rk hC [] [8,38,39] [(8,vI (wr (x4+1)))] [] [] (lE h))
   ·obtain rfl:=so h
    exact cQ (rq hC [oN (rL rI) x1.1,oN aG part.body] [4,5,81,82,83,84,85,86] [(4,vI (wr ((x1.1.length:Int)*(part.body.length:Int)))),(5,vB true)] [] [] (qr eR))
theorem aB5{r_a0}{r}(h:rO n r_a0=some r):VQ G 176 [eL r_a0] [V.ref 0 0] (V.agg (kH r.1)) [eL r.2]:=by
 unfold rO at h
 refine vq aN Tryz.func176 rfl fun w X β0 hC hg=> ?_
 refine rq hC [.z (.nat 20)] [2] [(2,V.ref 20 0)] [(20,sc [V.t T.nilS,V.t T.nilS])] [(20,true)] (qs (rq hC [] [3] [(3,vI 0)] [] [] (qb (jI h (fun x_=>bA [(0,V.ref 0 0),(2,V.ref 20 0),(3,vI x_.2.2)] [(0,E.cells [vM rY x_.1,vI x_.2.1]),(20,E.cells [V.t T.nilS,V.t T.nilS])] [0,20]) lS ?_))))
 rintro again4 ⟨x1,x2,x3⟩ h
 refine qs (rq hC [] [16,17] [(17,vB (decide (x3<4)))] [] [] (aT h (fun c1 h=> ?_) (fun c1 h=> ?_)))
 ·refine qk (qs (qb ?_))
  obtain⟨x5,hx5,h⟩:=bd h
  refine rq hC [oC [0] [21] (aB9 G hx5),.z (.nat 22)] [4,20,21,22] [(4,V.ref 22 0)] [(21,some (ar 147 1 2 aC x5.1)),(0,sR x5.2),(22,sc [ms 21 1 2 aC x5.1,V.t T.nilS])] [(0,true),(21,true),(22,true)] (qs ?_)
  obtain⟨x6,hx6,h⟩:=bd h
  refine rq hC [.z (.int 0),oC [0] [] (aZ G hx6)] [5,23,24,25] [(5,vI x6.1)] [(0,sR x6.2)] [(0,true)] (qb (qw (lk hC [.fz 21 [] [22]] [] [] [(22,sc [vM aC x5.1,V.t T.nilS]),(21,none)] []) (qw (lk hC [.growc 22 1 23 114] [] [] [(23,some (ar 114 1 9 aG [])),(22,sc [vM aC x5.1,ms 23 1 9 aG []])] [(23,true)]) (bC (γ:=Nat) h (fun x_ g_=>bA [(0,V.ref 0 0),(2,V.ref 20 0),(3,vI x3),(4,V.ref 22 0),(5,vI x_.2.2.2.2)] [(0,E.cells [vM rY x_.1,vI x_.2.1]),(20,E.cells [V.t T.nilS,V.t T.nilS]),(22,E.cells [vM aC x_.2.2.1,ms 23 g_ 9 aG x_.2.2.2.1]),(23,ar 114 g_ 9 aG x_.2.2.2.1)] [0,20,21,22,23]) 1 (lS) ?_))))
  rintro again13 ⟨x7,x8,x9,x10,x11⟩ g12 h
  refine qs (rq hC [] [26,27] [(27,vB (decide ((0:Int)<x11)))] [] [] (aT h (fun c2 h=> ?_) (fun c2 h=> ?_)))
  ·refine qk ?_
   obtain⟨j14,hj14,h⟩:=J9 h
   refine m4 (γ:=Nat) (j:=j14) (r:=r) (fun x_ g_=>bA [(0,V.ref 0 0),(2,V.ref 20 0),(3,vI x3),(4,V.ref 22 0),(5,vI x11)] [(0,E.cells [vM rY x_.1,vI x_.2.1]),(20,E.cells [V.t T.nilS,V.t T.nilS]),(22,E.cells [vM aC x9,ms 23 g_ 9 aG x_.2.2]),(23,ar 114 g_ 9 aG x_.2.2)] [0,20,21,22,23]) ?_ ?_
   ·
    refine qb (rq hC [] [6] [(6,vI 0)] [] [] (qb (jI h (fun x_=>bA [(0,V.ref 0 0),(2,V.ref 20 0),(3,vI x3),(4,V.ref 22 0),(5,vI x11),(6,vI x_.2.2)] [(0,E.cells [vM rY x_.1,vI x_.2.1]),(20,E.cells [V.t T.nilS,V.t T.nilS]),(22,E.cells [vM aC x9,ms 23 g12 9 aG x10]),(23,ar 114 g12 9 aG x10)] [0,20,21,22,23]) lS ?_)))
    rintro again18 ⟨x15,x16,x17⟩ h
    refine qs (rq hC [] [30,31] [(31,vB (decide (x17<5)))] [] [] (aT h (fun c3 h=> ?_) (fun c3 h=> ?_)))
    ·refine qk (qs (qb ?_))
     obtain⟨x19,hx19,h⟩:=bd h
     refine rq hC [oN aC x9,oC [0] [] (aB6 G hx19),.z (.nat 24)] [7,34,35,36,37,38] [(7,V.ref 24 0)] [(0,sR x19.2),(24,some (E.cells (cV x19.1)))] [(0,true),(24,true)] (qs ?_)
     obtain⟨x20,hx20,x21,hx21,h⟩:=cT h
     refine dk hC bD [oV (qL G n hx20),.z (.int 1),.z (.nat 25),.z (.at 7),.z (.fz 25 [44] []),oV (uG G hx21)] [8,9,39,40,41,42,43,44,45,46,47,48] [(9,vB x21.2)] [(25,none)] [(25,true)] (rq hC [] [49] [(49,vB x21.2)] [] [] (aT h (fun c4 h=> ?_) (fun c4 h=> ?_)))
     ·obtain⟨x22,hx22,h⟩:=bd h
      exact rq hC [.z (.int 0),oA (aO aG hx22),oQ (bO (r:=aG) 9 dI x10),oQ (bO (r:=aG) 9 dI [x19.1])] (fr 50 6) [] [(23,some (ar 114 (g12+1) 9 aG x22)),(22,sc [vM aC x9,ms 23 (g12+1) 9 aG x22])] [] (cQ ⟨(x19.2.b,x19.2.p,x22),(g12+1),h,lS⟩)
     ·exact qk (rk hC [] [6,32,33] [(6,vI (wr (x17+1)))] [] [] (lE h))
    ·exact cQ ⟨(x15,x16,x10),g12,h,lS⟩
   ·rintro⟨x23,x24,x25⟩ g26 h
    subst hj14
    exact rk hC [] [5,28,29] [(5,vI (wr (x11-1)))] [] [] ⟨(x23,x24,x9,x25,wr (x11-1)),g26,h,lS⟩
  ·refine cQ (qs ?_)
   obtain⟨x27,hx27,x28,hx28,h⟩:=cT h
   refine dk hC bD [oV (qL G n hx27),.z (.at 7),.z (.fz 23 [] [22]),oV (uG G hx28)] [10,11,56,57,58,59,60,61] [(10,vI x28.1),(11,vB x28.2)] [(22,sc [vM aC x9,vM aG x10]),(23,none)] [] (vj h (fun x_=>bA [(0,V.ref 0 0),(2,V.ref 20 0),(3,vI x3),(4,V.ref 22 0),(66,vB x_)] [(0,E.cells [vM rY x7,vI x8]),(20,E.cells [V.t T.nilS,V.t T.nilS]),(22,E.cells [vM aC x9,vM aG x10])] [0,20,21,22,23]) (fun j29 h=> ?_) (fun x30 h=> ?_))
   ·
    refine aR h (fun c5 h=> ?_) (fun c5 h=> ?_)
    ·exact rk hC (rF 3 c5) (fr 62 5) [(66,vB false)] [] [] (lE h)
    ·exact rk hC (rT 3 c5) (fr 62 5) [(66,vB (decide (x28.1≤40)))] [] [] (lE h)
   ·refine aT h (fun c6 h=> ?_) (fun c6 h=> ?_)
    ·obtain rfl:=so h
     exact rq hC [] [67] [] [(20,sc [vM aC x9,vM aG x10])] [] (qr eW)
    ·exact qk (rk hC [] [3,18,19] [(3,vI (wr (x3+1)))] [] [] (lE h))
 ·refine cQ ?_
  obtain⟨x31,hx31,h⟩:=bd h
  refine rq hC [oV (tO G hx31),.z (.nat 21)] [12,13,68,69,70,71] [(12,V.ref 21 0)] [(21,some (E.cells (cV x31.1)))] [(21,true)] ?_
  obtain⟨x32,hx32,h⟩:=bd h
  obtain rfl:=so h
  exact rq hC [.z (.int 0),oC [] [22] (aAG G hx32)] [14,15,72,73,74,75,76] [(14,ms 22 1 2 aC x32.1)] [(22,some (ar 147 1 2 aC x32.1))] [(22,true)] (rq hC [.z (.int 1),.z (.nat 23)] (fr 77 4) [] [(23,some (ar 114 1 9 aG [x31.1])),(20,sc [ms 22 1 2 aC x32.1,ms 23 1 9 aG [x31.1]])] [(23,true)] (qw (lk hC [.fz 22 [14] [20]] [14] [(14,vM aC x32.1)] [(20,sc [vM aC x32.1,ms 23 1 9 aG [x31.1]]),(22,none)] []) (qw (lk hC [.fz 23 [] [20]] [] [] [(20,sc [vM aC x32.1,vM aG [x31.1]]),(23,none)] []) (qr eW))))
theorem v8{list}{r}(h:nB n list=some r):PQ G 155 [vM aJ list] (vB r):=by
 unfold nB at h
 refine pq aN Tryz.func155 rfl fun w X hC=> ?_
 refine rq hC [] [2] [] [] [] (qs (rq hC [] [3] [(3,vI 0)] [] [] (qb (jI h (fun x_=>bA [(0,vM aJ list),(3,vI x_)] [] []) lS ?_))))
 rintro again2 x1 h
 refine qs (rq hC [oN aJ list] (fr 6 4) [(9,vB (decide (x1<(list.length:Int))))] [] [] (aT h (fun c1 h=> ?_) (fun c1 h=> ?_)))
 ·refine qk (qs (qb ?_))
  obtain⟨x3,hx3,h⟩:=bd h
  refine rq hC [oR aJ hx3,.z (.nat 20)] [4,12,13,14,15] [(4,V.ref 20 0)] [(20,sc [vS x3.name,vM rI x3.dims])] [(20,true)] (qs (vj h (fun x_=>bA [(0,vM aJ list),(3,vI x1),(4,V.ref 20 0),(56,vB x_)] [(20,E.cells [vS x3.name,vM rI x3.dims])] [20]) (fun j4 h=> ?_) (fun x6 h=> ?_)))
  ·
   refine aR h (fun c2 h=> ?_) (fun c2 h=> ?_)
   ·refine aR h (fun c3 h=> ?_) (fun c3 h=> ?_)
    ·refine aR h (fun c4 h=> ?_) (fun c4 h=> ?_)
     ·refine aR h (fun c5 h=> ?_) (fun c5 h=> ?_)
      ·refine aR h (fun c6 h=> ?_) (fun c6 h=> ?_)
       ·exact dk hC bD (rF 4 c2++rF 4 c3++rF 3 c4++rF 9 c5++[oF c4,oF c5,oF c4,eF,eF,eF,oN rI x3.dims,eF,eF]++rF 3 c6++[oN rI x3.dims,oF c6,oF c6]) (fr 16 41) [(56,vB (decide ((2:Int)<(x3.dims.length:Int))))] [] [] (lE h)
       ·exact dk hC bD (rF 4 c2++rF 4 c3++rF 3 c4++rF 9 c5++[oF c4,oF c5,oF c4,eF,eF,eF,oN rI x3.dims,eF,eF]++rT 5 c6) (fr 16 41) [(56,vB true)] [] [] (lE h)
      ·obtain⟨x5,hx5,h⟩:=bd h
       refine aR h (fun c7 h=> ?_) (fun c7 h=> ?_)
       ·refine aR h (fun c8 h=> ?_) (fun c8 h=> ?_)
        ·exact dk hC bD (rF 4 c2++rF 4 c3++rF 3 c4++rT 4 c5++[oR aJ hx5]++rT 5 c5++[oF c4,oT c5,oF c4]++rF 3 c7++[oN rI x3.dims,oF c7,oF c7]++rF 3 c8++[oN rI x3.dims,oF c8,oF c8]) (fr 16 41) [(56,vB (decide ((2:Int)<(x3.dims.length:Int))))] [] [] (lE h)
        ·exact dk hC bD (rF 4 c2++rF 4 c3++rF 3 c4++rT 4 c5++[oR aJ hx5]++rT 5 c5++[oF c4,oT c5,oF c4]++rF 3 c7++[oN rI x3.dims,oF c7,oF c7]++rT 5 c8) (fr 16 41) [(56,vB true)] [] [] (lE h)
       ·exact dk hC bD (rF 4 c2++rF 4 c3++rF 3 c4++rT 4 c5++[oR aJ hx5]++rT 5 c5++[oF c4,oT c5,oF c4]++rT 5 c7++sT 5) (fr 16 41) [(56,vB true)] [] [] (lE h)
     ·exact dk hC bD (rF 4 c2++rF 4 c3++rT 5 c4++sT 10) (fr 16 41) [(56,vB true)] [] [] (lE h)
    ·exact dk hC bD (rF 4 c2++rT 4 c3++sT 15) (fr 16 41) [(56,vB true)] [] [] (lE h)
   ·exact dk hC bD (rT 4 c2++sT 19) (fr 16 41) [(56,vB true)] [] [] (lE h)
  ·refine aT h (fun c9 h=> ?_) (fun c9 h=> ?_)
   ·obtain rfl:=so h
    exact rq hC [] [2] [(2,vB false)] [] [] (qr eR)
   ·refine qk (rq hC [] [5] [(5,vI 0)] [] [] (qb (jI h (fun x_=>bA [(0,vM aJ list),(3,vI x1),(4,V.ref 20 0),(5,vI x_)] [(20,E.cells [vS x3.name,vM rI x3.dims])] [20]) lS ?_)))
    rintro again8 x7 h
    refine qs (rq hC [oN rI x3.dims] (fr 57 5) [(61,vB (decide (x7<(x3.dims.length:Int))))] [] [] (aT h (fun c10 h=> ?_) (fun c10 h=> ?_)))
    ·refine qk (qs (qb (vj h (fun x_=>bA [(0,vM aJ list),(3,vI x1),(4,V.ref 20 0),(5,vI x7),(77,vB x_)] [(20,E.cells [vS x3.name,vM rI x3.dims])] [20]) (fun j9 h=> ?_) (fun x11 h=> ?_))))
     ·
      obtain⟨x10,hx10,h⟩:=bd h
      refine aR h (fun c11 h=> ?_) (fun c11 h=> ?_)
      ·exact rk hC ([oR rI hx10]++rF 4 c11++[oR rI hx10]++rF 3 c11) (fr 64 14) [(77,vB (decide ((6:Int)<x10)))] [] [] (lE h)
      ·exact rk hC ([oR rI hx10]++rT 7 c11) (fr 64 14) [(77,vB true)] [] [] (lE h)
     ·refine aT h (fun c12 h=> ?_) (fun c12 h=> ?_)
      ·obtain rfl:=so h
       exact rq hC [] [2] [(2,vB false)] [] [] (qr eR)
      ·exact qk (rk hC [] [5,62,63] [(5,vI (wr (x7+1)))] [] [] (lE h))
    ·exact cQ (rk hC [] [3,10,11] [(3,vI (wr (x1+1)))] [] [] (lE h))
 ·obtain rfl:=so h
  exact cQ (rq hC [oN aJ list] [2,78,79,80] [(2,vB (decide ((list.length:Int)≤4)))] [] [] (qr eR))
theorem cM{p}{r}(h:dF n p=some r):PQ G 64 [V.agg (bL p)] (vB r):=by
 unfold dF at h
 refine pq aN Tryz.func64 rfl fun w X hC=> ?_
 refine rq hC [.z (.b (true))] [1,2] [(1,V.tp (cP p))] [] [] (qs (vj h (fun x_=>bA [(1,V.tp (cP p)),(16,vB x_)] [] []) (fun j1 h=> ?_) (fun x3 h=> ?_)))
 ·
  obtain⟨x2,hx2,h⟩:=bd h
  refine aR h (fun c1 h=> ?_) (fun c1 h=> ?_)
  ·exact rk hC ([oV (v8 G hx2)]++rF 3 c1++[oN aD p.parts,oF c1,oF c1]) (fr 7 10) [(16,vB (decide ((4:Int)<(p.parts.length:Int))))] [] [] (lE h)
  ·exact rk hC ([oV (v8 G hx2)]++rT 5 c1) (fr 7 10) [(16,vB true)] [] [] (lE h)
 ·refine aT h (fun c2 h=> ?_) (fun c2 h=> ?_)
  ·obtain rfl:=so h
   exact rq hC [] [2] [(2,vB false)] [] [] (qr eR)
  ·refine qk (rq hC [] [3] [(3,vI 0)] [] [] (qs (rq hC [] [4] [(4,vI 0)] [] [] (qb (jI h (fun x_=>bA [(1,V.tp (cP p)),(3,vI x_.1),(4,vI x_.2)] [] []) lS ?_)))))
   rintro again6 ⟨x4,x5⟩ h
   refine qs (rq hC [oN aD p.parts] (fr 17 5) [(21,vB (decide (x5<(p.parts.length:Int))))] [] [] (aT h (fun c3 h=> ?_) (fun c3 h=> ?_)))
   ·refine qk (qs (qb (qs ?_)))
    obtain⟨x7,hx7,x8,hx8,h⟩:=cT h
    refine dk hC bD [oR aD hx7,oV (uG G hx8)] [5,6,24,25,26,27,28,29,30,31,32,33,34] [(5,vI x8.1),(6,vB x8.2)] [] [] (qs (rq hC [] [35,36] [(36,vB (!x8.2))] [] [] (aT h (fun c4 h=> ?_) (fun c4 h=> ?_))))
    ·obtain rfl:=so h
     exact rq hC [] [2] [(2,vB false)] [] [] (qr eR)
    ·exact qk (rk hC [] [3,37,38,39] [(3,vI (wr (x4+x8.1)))] [] [] (rk hC [] [4,22,23] [(4,vI (wr (x5+1)))] [] [] (lE h)))
   ·obtain rfl:=so h
    exact cQ (rq hC [] [2,40,41] [(2,vB (decide (x4≤120)))] [] [] (qr eR))
theorem aB4{r_a0}{r}(h:rN n r_a0=some r):VQ G 78 [eL r_a0] [V.ref 0 0] (V.agg (bL r.1)) [eL r.2]:=by
 unfold rN at h
 refine vq aN Tryz.func78 rfl fun w X β0 hC hg=> ?_
 refine rq hC [.z (.nat 20)] [2] [(2,V.ref 20 0)] [(20,sc [V.t T.nilS,V.t T.nilS])] [(20,true)] ?_
 obtain⟨x1,hx1,h⟩:=bd h
 refine rq hC [oV (qL G n hx1),.z (.nat 21)] [3,5,6] [(3,V.ref 21 0)] [(21,sc [vM aJ x1,V.t T.nilS])] [(21,true)] (qs ?_)
 obtain⟨x2,hx2,h⟩:=bd h
 refine rq hC [.z (.int 0),oC [0] [] (aZ G hx2)] [4,7,8,9] [(4,vI x2.1)] [(0,sR x2.2)] [(0,true)] (qb (qw (lk hC [.growc 21 1 22 128] [] [] [(22,some (ar 128 1 2 aD [])),(21,sc [vM aJ x1,ms 22 1 2 aD []])] [(22,true)]) (bC (γ:=Nat) h (fun x_ g_=>bA [(0,V.ref 0 0),(2,V.ref 20 0),(3,V.ref 21 0),(4,vI x_.2.2.2)] [(0,E.cells [vM rY x_.1,vI x_.2.1]),(20,E.cells [V.t T.nilS,V.t T.nilS]),(21,E.cells [vM aJ x1,ms 22 g_ 2 aD x_.2.2.1]),(22,ar 128 g_ 2 aD x_.2.2.1)] [0,20,21,22]) 1 (lS) ?_)))
 rintro again8 ⟨x3,x4,x5,x6⟩ g7 h
 refine qs (rq hC [] [10,11] [(11,vB (decide ((0:Int)<x6)))] [] [] (aT h (fun c1 h=> ?_) (fun c1 h=> ?_)))
 ·refine qk (qs (qb ?_))
  obtain⟨x9,hx9,x10,hx10,h⟩:=cT h
  exact dk hC bD [oC [0] [] (aB5 G hx9),.z (.int 0),oA (aO aD hx10),oQ (bO (r:=aD) 2 bU x5),oQ (bO (r:=aD) 2 bU [x9.1])] (fr 14 7) [] [(0,sR x9.2),(22,some (ar 128 (g7+1) 2 aD x10)),(21,sc [vM aJ x1,ms 22 (g7+1) 2 aD x10])] [(0,true)] (rk hC [] [4,12,13] [(4,vI (wr (x6-1)))] [] [] ⟨(x9.2.b,x9.2.p,x10,wr (x6-1)),(g7+1),h,lS⟩)
 ·refine cQ (qs ?_)
  obtain⟨x11,hx11,h⟩:=bd h
  refine rq hC [.z (.at 2),.z (.fz 22 [] [21]),oV (cM G hx11)] [21,22] [(22,vB x11)] [(21,sc [vM aJ x1,vM aD x5]),(22,none)] [] (aT h (fun c2 h=> ?_) (fun c2 h=> ?_))
  ·obtain rfl:=so h
   exact rq hC [] [23] [] [(20,sc [vM aJ x1,vM aD x5])] [] (qr eW)
  ·refine qk (qs ?_)
   obtain⟨x12,hx12,x13,hx13,h⟩:=cT h
   obtain rfl:=so h
   exact dk hC bD [oV (qL G n hx12),oA (u5 aD hx13),oQ (bO (r:=aD) 2 bU x5)] (fr 24 5) [] [(20,sc [vM aJ x12,vM aD x13])] [] (qr eW)
theorem bH{n_a0}{low}{high}{r}(h:bX n n_a0 low high=some r):PQ G 73 [vI n_a0,vI low,vI high] (vB r):=by
 unfold bX at h
 refine pq aN Tryz.func73 rfl fun w X hC=> ?_
 refine rq hC [] [6] [] [] [] (vj h (fun x_=>bA [(6,vB x_)] [] []) (fun j1 h=> ?_) (fun x2 h=> ?_))
 ·
  refine aR h (fun c1 h=> ?_) (fun c1 h=> ?_)
  ·exact rk hC (rF 4 c1) (fr 6 9) [(6,vB false)] [] [] (lE h)
  ·exact rk hC (rT 4 c1) (fr 6 9) [(6,vB (decide (n_a0≤high)))] [] [] (lE h)
 ·obtain rfl:=so h
  exact qr eR
theorem yP{n_a0}{r}(h:s9 n n_a0=some r):PQ G 309 [vI n_a0] (vB r):=by
 unfold s9 at h
 refine pq aN Tryz.func309 rfl fun w X hC=> ?_
 refine rq hC [] [2] [] [] [] ?_
 obtain⟨x1,hx1,h⟩:=bd h
 obtain rfl:=so h
 exact rq hC [oV (bH G hx1)] [2,3,4] [(2,vB x1)] [] [] (qr eR)
theorem wK(G:GS)(n:Nat)(c:Int){r:Bool}(h:eE n c=some r):PQ G 310 [vI c] (vB r):=by
 unfold eE at h
 refine pq aN Tryz.func310 rfl fun w X hC=> ?_
 refine rq hC [] [2] [] [] [] ?_
 obtain⟨x1,hx1,h⟩:=bd h
 obtain rfl:=so h
 exact rq hC [oV (bH G hx1)] (fr 2 4) [(2,vB (!x1))] [] [] (qr eR)
theorem wE(G:GS)(n:Nat)(s:List Int)(fF:FuncId)(f:Int→Option Bool)(hf: ∀(q0:Int) r,f q0=some r→PQ G fF [vI q0] (vB r)){r:Int}(h:iO n s f=some r):PQ G 220 [vM rI s,V.fn fF []] (vI r):=by
 unfold iO at h
 refine pq aN Tryz.func220 rfl fun w X hC=> ?_
 refine rq hC [] [4] [] [] [] (qs (rq hC [oN rI s] [6,7,8] [(7,vI (s.length:Int)),(8,vI 0)] [] [] (qb (jI h (fun x_=>bA [(0,vM rI s),(1,V.fn fF []),(7,vI (s.length:Int)),(8,vI x_)] [] []) lS ?_))))
 rintro again2 x1 h
 refine rq hC [] [9] [(9,vB (decide (x1<(s.length:Int))))] [] [] (qs (aT h (fun c1 h=> ?_) (fun c1 h=> ?_)))
 ·refine qk (qs (qb (rq hC [] [5,10] [(5,vI x1)] [] [] ?_)))
  obtain⟨x3,hx3,x4,hx4,h⟩:=cT h
  refine rq hC [oR rI hx3,oV (hf x3 _ hx4)] (fr 11 6) [(16,vB x4)] [] [] (aT h (fun c2 h=> ?_) (fun c2 h=> ?_))
  ·obtain rfl:=so h
   exact rq hC [] [4,17] [(4,vI x1)] [] [] (qr eR)
  ·exact qk (rk hC [] [8,18] [(8,vI (wr (x1+1)))] [] [] (lE h))
 ·obtain rfl:=so h
  exact cQ (rq hC [] [4] [(4,vI (-1))] [] [] (qr eR))
theorem eO(G:GS)(n:Nat)(s:List Int)(fF:FuncId)(f:Int→Option Bool)(hf: ∀(q0:Int) r,f q0=some r→PQ G fF [vI q0] (vB r)){r:Bool}(h:bM n s f=some r):PQ G 151 [vM rI s,V.fn fF []] (vB r):=by
 unfold bM at h
 refine pq aN Tryz.func151 rfl fun w X hC=> ?_
 refine rq hC [] [4] [] [] [] ?_
 obtain⟨x1,hx1,h⟩:=bd h
 obtain rfl:=so h
 exact rq hC [oV (wE G n s fF f hf hx1)] (fr 4 5) [(4,vB (decide ((0:Int)≤x1)))] [] [] (qr eR)
theorem dN{a}{r}(h:eQ n a=some r):PQ G 277 [V.agg (aK a)] (vB r):=by
 unfold eQ at h
 refine pq aN Tryz.func277 rfl fun w X hC=> ?_
 refine rq hC [.z (.b (true))] [1,2] [(1,V.tp (aQ a))] [] [] (vj h (fun x_=>bA [(2,vB x_)] [] []) (fun j1 h=> ?_) (fun x4 h=> ?_))
 ·
  refine aR h (fun c1 h=> ?_) (fun c1 h=> ?_)
  ·exact rk hC ([oN rI a.coefs]++rF 4 c1++sF 5) (fr 2 16) [(2,vB false)] [] [] (lE h)
  ·obtain⟨x2,hx2,h⟩:=bd h
   refine aR h (fun c2 h=> ?_) (fun c2 h=> ?_)
   ·exact rk hC ([oN rI a.coefs]++rT 3 c1++[oV (yP G hx2),oT c1]++rF 5 c2) (fr 2 16) [(2,vB false)] [] [] (lE h)
   ·obtain⟨x3,hx3,h⟩:=bd h
    exact rk hC ([oN rI a.coefs]++rT 3 c1++[oV (yP G hx2),oT c1]++rT 3 c2++[oV (eO G n a.coefs 310 (fun q0=>eE n q0) (fun q0 r h=>wK G n q0 h) hx3),oT c2,oT c2]) (fr 2 16) [(2,vB (!x3))] [] [] (lE h)
 ·obtain rfl:=so h
  exact qr eR
theorem iD{a}{r}(h:d8 n a=some r):PQ G 254 [V.agg (aK a)] (vI r):=by
 unfold d8 at h
 refine pq aN Tryz.func254 rfl fun w X hC=> ?_
 refine rq hC [.z (.b (true))] [1,2] [(1,V.tp (aQ a))] [] [] (rq hC [oN rI a.coefs] (fr 3 4) [(3,vI (a.coefs.length:Int))] [] [] (qs (qb (jI h (fun x_=>bA [(1,V.tp (aQ a)),(3,vI x_)] [] []) lS ?_))))
 rintro again2 x1 h
 refine qs (vj h (fun x_=>bA [(1,V.tp (aQ a)),(3,vI x1),(17,vB x_)] [] []) (fun j3 h=> ?_) (fun x5 h=> ?_))
 ·
  refine aR h (fun c1 h=> ?_) (fun c1 h=> ?_)
  ·exact rk hC (rF 8 c1) (fr 7 11) [(17,vB false)] [] [] (lE h)
  ·obtain⟨x4,hx4,h⟩:=bd h
   exact rk hC (rT 5 c1++[oR rI hx4]++rT 3 c1) (fr 7 11) [(17,vB (decide (x4=0)))] [] [] (lE h)
 ·refine aT h (fun c2 h=> ?_) (fun c2 h=> ?_)
  ·exact qk (qb (rk hC [] [3,18,19] [(3,vI (wr (x1-1)))] [] [] (lE h)))
  ·obtain rfl:=so h
   exact cQ (rq hC [] [2,20] [(2,vI x1)] [] [] (qr eR))
theorem I4(G:GS)(n:Nat)(a:Affine)(c0__a1:Int){r:Bool}(h:fM n a c0__a1=some r):PQ G 307 [V.agg (aK a),V.tp [T.int .i64 c0__a1]] (vB r):=by
 unfold fM at h
 refine pq aN Tryz.func307 rfl fun w X hC=> ?_
 refine rq hC [.z (.b (true))] [2,3] [(2,V.tp (aQ a))] [] [] (vj h (fun x_=>bA [(3,vB x_)] [] []) (fun j1 h=> ?_) (fun x4 h=> ?_))
 ·
  obtain⟨x2,hx2,h⟩:=bd h
  refine aR h (fun c1 h=> ?_) (fun c1 h=> ?_)
  ·obtain⟨x3,hx3,h⟩:=bd h
   exact dk hC bD ([oV (dN G hx2),oF c1,oF c1,oV (iD G hx3)]++rF 3 c1) (fr 3 10) [(3,vB (decide (c0__a1<x3)))] [] [] (lE h)
  ·exact dk hC bD ([oV (dN G hx2)]++rT 5 c1) (fr 3 10) [(3,vB true)] [] [] (lE h)
 ·obtain rfl:=so h
  exact qr eR
theorem pJ(G:GS)(n:Nat)(s:List Affine)(fF:FuncId)(fC0:List T)(f:Affine→Option Bool)(hf: ∀(q0:Affine) r,f q0=some r→PQ G fF [V.agg (aK q0),V.tp fC0] (vB r)){r:Int}(h:fK n s f=some r):PQ G 308 [vM aA s,V.fn fF [V.tp fC0]] (vI r):=by
 unfold fK at h
 refine pq aN Tryz.func308 rfl fun w X hC=> ?_
 refine rq hC [] [4] [] [] [] (qs (rq hC [oN aA s] [6,7,8] [(7,vI (s.length:Int)),(8,vI 0)] [] [] (qb (jI h (fun x_=>bA [(0,vM aA s),(1,V.fn fF [V.tp fC0]),(7,vI (s.length:Int)),(8,vI x_)] [] []) lS ?_))))
 rintro again2 x1 h
 refine rq hC [] [9] [(9,vB (decide (x1<(s.length:Int))))] [] [] (qs (aT h (fun c1 h=> ?_) (fun c1 h=> ?_)))
 ·refine qk (qs (qb (rq hC [] [5,10] [(5,vI x1)] [] [] ?_)))
  obtain⟨x3,hx3,x4,hx4,h⟩:=cT h
  refine rq hC [oR aA hx3,oV (hf x3 _ hx4)] (fr 11 6) [(16,vB x4)] [] [] (aT h (fun c2 h=> ?_) (fun c2 h=> ?_))
  ·obtain rfl:=so h
   exact rq hC [] [4,17] [(4,vI x1)] [] [] (qr eR)
  ·exact qk (rk hC [] [8,18] [(8,vI (wr (x1+1)))] [] [] (lE h))
 ·obtain rfl:=so h
  exact cQ (rq hC [] [4] [(4,vI (-1))] [] [] (qr eR))
theorem gR(G:GS)(n:Nat)(s:List Affine)(fF:FuncId)(fC0:List T)(f:Affine→Option Bool)(hf: ∀(q0:Affine) r,f q0=some r→PQ G fF [V.agg (aK q0),V.tp fC0] (vB r)){r:Bool}(h:cB n s f=some r):PQ G 275 [vM aA s,V.fn fF [V.tp fC0]] (vB r):=by
 unfold cB at h
 refine pq aN Tryz.func275 rfl fun w X hC=> ?_
 refine rq hC [] [4] [] [] [] ?_
 obtain⟨x1,hx1,h⟩:=bd h
 obtain rfl:=so h
 exact rq hC [oV (pJ G n s fF fC0 f hf hx1)] (fr 4 5) [(4,vB (decide ((0:Int)≤x1)))] [] [] (qr eR)
theorem qR{list}{depth}{r}(h:kW n list depth=some r):PQ G 274 [vM aA list,vI depth] (vB r):=by
 unfold kW at h
 refine pq aN Tryz.func274 rfl fun w X hC=> ?_
 refine rq hC [.z (.b (true))] [3,4] [(3,V.tp [T.int .i64 depth])] [] [] (vj h (fun x_=>bA [(4,vB x_)] [] []) (fun j1 h=> ?_) (fun x4 h=> ?_))
 ·
  obtain⟨x2,hx2,h⟩:=bd h
  refine aR h (fun c1 h=> ?_) (fun c1 h=> ?_)
  ·exact rk hC ([oN aA list,oV (bH G hx2)]++rF 5 c1) (fr 4 10) [(4,vB false)] [] [] (lE h)
  ·obtain⟨x3,hx3,h⟩:=bd h
   exact rk hC ([oN aA list,oV (bH G hx2)]++rT 3 c1++[oV (gR G n list 307 [T.int .i64 depth] (fun q0=>fM n q0 depth) (fun q0 r h=>I4 G n q0 depth h) hx3),oT c1,oT c1]) (fr 4 10) [(4,vB (!x3))] [] [] (lE h)
 ·obtain rfl:=so h
  exact qr eR
theorem L0{nest}{r}(h:lV n nest=some r):PQ G 228 [vM aC nest] (vB r):=by
 unfold lV at h
 refine pq aN Tryz.func228 rfl fun w X hC=> ?_
 refine rq hC [] [2] [] [] [] (qs (rq hC [oN aC nest] [5,6,7] [(5,vM aC nest),(6,vI (nest.length:Int)),(7,vI 0)] [] [] (qb (jI h (fun x_=>bA [(0,vM aC nest),(5,vM aC nest),(6,vI (nest.length:Int)),(7,vI x_)] [] []) lS ?_))))
 rintro again2 x1 h
 refine rq hC [] [8] [(8,vB (decide (x1<(nest.length:Int))))] [] [] (qs (aT h (fun c1 h=> ?_) (fun c1 h=> ?_)))
 ·refine qk (qs (qb ?_))
  obtain⟨x3,hx3,h⟩:=bd h
  refine rq hC [oR aC hx3,.z (.nat 20)] [3,4,9,10,11] [(3,vI x1),(4,V.ref 20 0)] [(20,some (E.cells (jF x3)))] [(20,true)] (vj h (fun x_=>bA [(0,vM aC nest),(5,vM aC nest),(6,vI (nest.length:Int)),(7,vI x1),(23,vB x_)] [(20,E.cells (jF x3))] [20]) (fun j4 h=> ?_) (fun x7 h=> ?_))
  ·
   obtain⟨x5,hx5,h⟩:=bd h
   refine aR h (fun c2 h=> ?_) (fun c2 h=> ?_)
   ·obtain⟨x6,hx6,h⟩:=bd h
    exact rk hC ([oV (qR G hx5)]++rF 4 c2++[oV (qR G hx6),oF c2,oF c2]) (fr 12 12) [(23,vB (!x6))] [] [] (lE h)
   ·exact rk hC ([oV (qR G hx5)]++rT 6 c2) (fr 12 12) [(23,vB true)] [] [] (lE h)
  ·refine aT h (fun c3 h=> ?_) (fun c3 h=> ?_)
   ·obtain rfl:=so h
    exact rq hC [] [2] [(2,vB false)] [] [] (qr eR)
   ·exact qk (rk hC [] [7,24] [(7,vI (wr (x1+1)))] [] [] (lE h))
 ·obtain rfl:=so h
  exact cQ (rq hC [oN aC nest] [2,25,26,27] [(2,vB (decide ((nest.length:Int)≤4)))] [] [] (qr eR))
theorem fY{a}{point}{r}(h:cE n a point=some r):PQ G 222 [V.agg (aK a),vM rI point] (vI r):=by
 unfold cE at h
 refine pq aN Tryz.func222 rfl fun w X hC=> ?_
 refine rq hC [.z (.b (true))] [2,4] [(2,V.tp (aQ a))] [] [] (rq hC [] [5,8,9] [(5,vI a.const)] [] [] (qs (rq hC [oN rI point] [10,11,12] [(10,vM rI point),(11,vI (point.length:Int)),(12,vI 0)] [] [] (qb (jI h (fun x_=>bA [(2,V.tp (aQ a)),(5,vI x_.1),(10,vM rI point),(11,vI (point.length:Int)),(12,vI x_.2)] [] []) lS ?_)))))
 rintro again3 ⟨x1,x2⟩ h
 refine rq hC [] [13] [(13,vB (decide (x2<(point.length:Int))))] [] [] (qs (aT h (fun c1 h=> ?_) (fun c1 h=> ?_)))
 ·refine qk (qs (qb ?_))
  obtain⟨x4,hx4,h⟩:=bd h
  refine rq hC [oR rI hx4] [6,7,14,15,16] [(6,vI x2),(7,vI x4)] [] [] ?_
  obtain⟨x5,hx5,h⟩:=bd h
  exact rk hC [oR rI hx5] [5,17,18,19,20,21,22,23,24,25] [(5,vI (wr (x1+(wr (x5*x4)))))] [] [] (rk hC [] [12,26] [(12,vI (wr (x2+1)))] [] [] (lE h))
 ·obtain rfl:=so h
  exact cQ (rq hC [] [4,27] [(4,vI x1)] [] [] (qr eR))
theorem L1{l}{point}{r}(h:lW n l point=some r):PQ G 235 [V.agg (jF l),vM rI point] (V.tup [vI r.1,vI r.2]):=by
 unfold lW at h
 refine pq aN Tryz.func235 rfl fun w X hC=> ?_
 refine rq hC [.z (.b (true))] [2,4,5] [(2,V.tp (tG l))] [] [] (qs ?_)
 obtain⟨x1,hx1,x2,hx2,x3,hx3,h⟩:=jH h
 obtain⟨x4,hx4,h⟩:=bd h
 refine dk hC bD [oR aA hx1,oV (fY G hx2),oR aA hx3,oV (fY G hx4)] [6,7,12,13,14,15,16,17,18,19,20,21,22,23] [(6,vI x2),(7,vI x4)] [] [] (qs (rq hC [oN aA l.lo] (fr 24 4) [(25,vM aA l.lo),(26,vI (l.lo.length:Int)),(27,vI 0)] [] [] (qb (jI h (fun x_=>bA [(1,vM rI point),(2,V.tp (tG l)),(6,vI x_.1),(7,vI x4),(25,vM aA l.lo),(26,vI (l.lo.length:Int)),(27,vI x_.2)] [] []) lS ?_))))
 rintro again7 ⟨x5,x6⟩ h
 refine rq hC [] [28] [(28,vB (decide (x6<(l.lo.length:Int))))] [] [] (qs (aT h (fun c1 h=> ?_) (fun c1 h=> ?_)))
 ·refine qk (qs (qb ?_))
  obtain⟨x8,hx8,h⟩:=bd h
  refine rq hC [oR aA hx8,.z (.nat 20)] [9,29,30] [(9,V.ref 20 0)] [(20,some (E.cells (aK x8)))] [(20,true)] ?_
  obtain⟨x9,hx9,h⟩:=bd h
  exact rk hC [oV (fY G hx9)] [6,31,32,33,34,35] [(6,vI (max x5 x9))] [] [] (rk hC [] [27,36] [(27,vI (wr (x6+1)))] [] [] (lE h))
 ·refine cQ (qs (rq hC [oN aA l.hi] (fr 37 4) [(38,vM aA l.hi),(39,vI (l.hi.length:Int)),(40,vI 0)] [] [] (qb (jI h (fun x_=>bA [(1,vM rI point),(6,vI x5),(7,vI x_.1),(38,vM aA l.hi),(39,vI (l.hi.length:Int)),(40,vI x_.2)] [] []) lS ?_))))
  rintro again12 ⟨x10,x11⟩ h
  refine rq hC [] [41] [(41,vB (decide (x11<(l.hi.length:Int))))] [] [] (qs (aT h (fun c2 h=> ?_) (fun c2 h=> ?_)))
  ·refine qk (qs (qb ?_))
   obtain⟨x13,hx13,h⟩:=bd h
   refine rq hC [oR aA hx13,.z (.nat 20)] [11,42,43] [(11,V.ref 20 0)] [(20,some (E.cells (aK x13)))] [(20,true)] ?_
   obtain⟨x14,hx14,h⟩:=bd h
   exact rk hC [oV (fY G hx14)] [7,44,45,46,47,48] [(7,vI (min x10 x14))] [] [] (rk hC [] [40,49] [(40,vI (wr (x11+1)))] [] [] (lE h))
  ·obtain rfl:=so h
   exact cQ (rq hC [] [4,5,50,51] [(4,vI x5),(5,vI x10)] [] [] (qr eR))
theorem xT(G:GS): ∀(n:Nat) (w_a0:Walking) (w_a0G2:Nat) (point:List Int) {r:Bool×Walking} (h:i_walking_walk n w_a0 point=some r),VQ G 229 [E.cells [vM aC w_a0.nest,vI w_a0.steps,ms 1 w_a0G2 1 (rL rI) w_a0.out],ar 27 w_a0G2 1 (rL rI) w_a0.out] [V.ref 0 0,vM rI point] (vB r.1) [E.cells [vM aC r.2.nest,vI r.2.steps,ms 1 (w_a0G2+1) 1 (rL rI) r.2.out],ar 27 (w_a0G2+1) 1 (rL rI) r.2.out]:=by
 intro n
 induction n with
 |zero=>intro w_a0 w_a0G2 point r h;rw [i_walking_walk.eq_def] at h;cases h
 |succ n ih=>
  intro w_a0 w_a0G2 point r h
  rw [i_walking_walk.eq_def] at h;dsimp only at h
  refine vq aN Tryz.func229 rfl fun w X β0 hC hg=> ?_
  refine rq hC [] [4] [] [] [] (qs (rq hC [oN rI point,oN aC w_a0.nest] (fr 8 8) [(15,vB (decide ((point.length:Int)=(w_a0.nest.length:Int))))] [] [] (aT h (fun c1 h=> ?_) (fun c1 h=> ?_))))
  ·refine qs ?_
   obtain⟨x1,hx1,x2,hx2,h⟩:=cT h
   obtain rfl:=so h
   exact dk hC bD [oC [] [20] (G.clone point hx1),.z (.at 5),.z (.fz 20 [22] []),.z (.int 0),oA (aO (rL rI) hx2),oQ (bO (r:=(rL rI)) 1 (fun _=>rfl) w_a0.out),oQ (bO (r:=(rL rI)) 1 (fun _=>rfl) [x1])] (fr 16 11) [] [(20,none),(1,some (ar 27 (w_a0G2+1) 1 (rL rI) x2)),(0,sc [vM aC w_a0.nest,vI w_a0.steps,ms 1 (w_a0G2+1) 1 (rL rI) x2])] [(20,true)] (rq hC [oN (rL rI) x2] [4,27,28,29,30,31,32] [(4,vB (decide ((x2.length:Int)≤120)))] [] [] (qw (dG 0 2 1 w_a0G2 (w_a0G2+1) 1 0 (List.map (rL rI) x2).length (e:= .arr 27 (w_a0G2+1) 1 (List.map (rL rI) x2)) (cs:=[vM aC w_a0.nest,vI w_a0.steps,ms 1 (w_a0G2+1) 1 (rL rI) x2]) rfl (by kernel_rfl) (by kernel_rfl) (by kernel_rfl) (by kernel_rfl) rfl rfl hg.2.1) (qr eW)))
  ·refine qk ?_
   obtain⟨x3,hx3,x4,hx4,h⟩:=cT h
   refine rq hC [oN rI point,oR aC hx3,oV (L1 G hx4)] [5,6,33,34,35,36,37,38,39,40,41,42,43,44,45] [(5,vI x4.1),(6,vI x4.2)] [] [] (qs (rq hC [] [7,46] [(7,vI x4.1)] [] [] (qb (bC (γ:=Nat) h (fun x_ g_=>bA [(0,V.ref 0 0),(1,vM rI point),(6,vI x4.2),(7,vI x_.2.2.2)] [(0,E.cells [vM aC x_.1,vI x_.2.1,ms 1 g_ 1 (rL rI) x_.2.2.1]),(1,ar 27 g_ 1 (rL rI) x_.2.2.1)] [0,1]) w_a0G2 (lS) ?_))))
   rintro again10 ⟨x5,x6,x7,x8⟩ g9 h
   refine qs (rq hC [] [47,48,49] [(49,vB (decide (x8<x4.2)))] [] [] (aT h (fun c2 h=> ?_) (fun c2 h=> ?_)))
   ·refine qk (qs (qb (rq hC [] (fr 52 7) [] [(0,sc [vM aC x5,vI (wr (x6+1)),ms 1 g9 1 (rL rI) x7])] [] ?_)))
    obtain⟨j11,hj11,h⟩:=J9 h
    refine m4 (γ:=Nat) (j:=j11) (r:=r) (fun x_ g_=>bA [(0,V.ref 0 0),(1,vM rI point),(6,vI x4.2),(7,vI x8),(74,vB x_.2.2.2)] [(0,E.cells [vM aC x_.1,vI x_.2.1,ms 1 g_ 1 (rL rI) x_.2.2.1]),(1,ar 27 g_ 1 (rL rI) x_.2.2.1)] [0,1]) ?_ ?_
    ·
     refine aR h (fun c3 h=> ?_) (fun c3 h=> ?_)
     ·obtain⟨x12,hx12,x13,hx13,x14,hx14,h⟩:=jH h
      exact rk hC (rF 3 c3++[oC [] [20] (G.clone point hx12),oF c3,oF c3,.z (.int 0),oF c3,oA (aO rI hx13),.z (.at 3),.z (.fz 20 [71] []),oQ (bO (r:=rI) 1 (fun _=>rfl) x12),oQ (bO (r:=rI) 1 (fun _=>rfl) [x8]),oF c3,oC [0,1] [] (ih (⟨x5,wr (x6+1),x7⟩:Walking) g9 x13 hx14),oF c3,oF c3]) (fr 59 16) [(74,vB (!x14.1))] [(20,none),(1,some (ar 27 (g9+1) 1 (rL rI) x14.2.out)),(0,sc [vM aC x14.2.nest,vI x14.2.steps,ms 1 (g9+1) 1 (rL rI) x14.2.out])] [(20,true),(0,true),(1,true)] ⟨(x14.2.nest,x14.2.steps,x14.2.out, !x14.1),(g9+1),h,lS⟩
     ·exact rk hC (rT 9 c3) (fr 59 16) [(74,vB true)] [] [] ⟨(x5,wr (x6+1),x7,true),g9,h,lS⟩
    ·rintro⟨x15,x16,x17,x18⟩ g19 h
     subst hj11
     refine aT h (fun c4 h=> ?_) (fun c4 h=> ?_)
     ·obtain rfl:=so h
      exact rq hC [] [4] [(4,vB false)] [] [] (qw (dG 0 2 1 w_a0G2 g19 1 0 (List.map (rL rI) x17).length (e:= .arr 27 g19 1 (List.map (rL rI) x17)) (cs:=[vM aC x15,vI x16,ms 1 g19 1 (rL rI) x17]) rfl (by kernel_rfl) (by kernel_rfl) (by kernel_rfl) (by kernel_rfl) rfl rfl hg.2.1) (qr eW))
     ·exact qk (rk hC [] [7,50,51] [(7,vI (wr (x8+1)))] [] [] ⟨(x15,x16,x17,wr (x8+1)),g19,h,lS⟩)
   ·obtain rfl:=so h
    exact cQ (rq hC [] [4] [(4,vB true)] [] [] (qw (dG 0 2 1 w_a0G2 g9 1 0 (List.map (rL rI) x7).length (e:= .arr 27 g9 1 (List.map (rL rI) x7)) (cs:=[vM aC x5,vI x6,ms 1 g9 1 (rL rI) x7]) rfl (by kernel_rfl) (by kernel_rfl) (by kernel_rfl) (by kernel_rfl) rfl rfl hg.2.1) (qr eW)))
theorem I9{nest}{r}(h:kB n nest=some r):VQ G 160 [] [vM aC nest] (V.tup [ms 0 1 1 (rL rI) r.1,vB r.2]) [ar 27 1 1 (rL rI) r.1]:=by
 unfold kB at h
 refine vq aN Tryz.func160 rfl fun w X β0 hC hg=> ?_
 refine rq hC [] [2,3] [] [] [] (qs ?_)
 obtain⟨x1,hx1,h⟩:=bd h
 refine rq hC [oV (L0 G hx1)] [5,6,7] [(7,vB (!x1))] [] [] (aT h (fun c1 h=> ?_) (fun c1 h=> ?_))
 ·obtain rfl:=so h
  exact rq hC [] [2,3] [(2,V.t T.nilS),(3,vB false)] [] [] (qw (lk hC [.grow 2 0 27] [2] [(2,ms 0 1 1 (rL rI) [])] [(0,some (ar 27 1 1 (rL rI) []))] [(0,true)]) (qr eW))
 ·refine qk (rq hC [.z (.nat 20)] [4,8,9,10] [(4,V.ref 20 0)] [(20,sc [vM aC nest,vI 0,V.t T.nilS])] [(20,true)] (qs ?_))
  obtain⟨x2,hx2,h⟩:=bd h
  refine rq hC [.z (.at 2),.z (.growc 20 2 21 27),oC [20,21] [] (xT G n (⟨nest,0,[]⟩:Walking) 1 [] hx2)] [11,12,13] [(13,vB (!x2.1))] [(21,some (ar 27 2 1 (rL rI) x2.2.out)),(20,sc [vM aC x2.2.nest,vI x2.2.steps,ms 21 2 1 (rL rI) x2.2.out])] [(21,true),(20,true),(21,true)] (aT h (fun c2 h=> ?_) (fun c2 h=> ?_))
  ·obtain rfl:=so h
   exact rq hC [] [2,3] [(2,V.t T.nilS),(3,vB false)] [] [] (qw (lk hC [.grow 2 0 27] [2] [(2,ms 0 1 1 (rL rI) [])] [(0,some (ar 27 1 1 (rL rI) []))] [(0,true)]) (qr eW))
  ·obtain rfl:=so h
   exact qk (rq hC [] [2,3,14,15,16,17] [(2,ms 21 2 1 (rL rI) x2.2.out),(3,vB true)] [] [] (qw (lk hC [.ren 2 21 0] [2] [(2,ms 0 1 1 (rL rI) x2.2.out)] [(0,some (ar 27 1 1 (rL rI) x2.2.out)),(21,none)] [(0,true)]) (qr eW)))
theorem aAL{kind}{r}(h:D7 n kind=some r):PQ G 256 [vI kind] (vB r):=by
 unfold D7 at h
 refine pq aN Tryz.func256 rfl fun w X hC=> ?_
 refine rq hC [] [2] [] [] [] ?_
 obtain⟨x1,hx1,h⟩:=bd h
 obtain rfl:=so h
 exact rq hC [oV (bH G hx1)] [2,3,4] [(2,vB x1)] [] [] (qr eR)
theorem eP{s}{r}(h:mX n s=some r):PQ G 226 [vS s] (vB r):=by
 unfold mX at h
 refine pq aN Tryz.func226 rfl fun w X hC=> ?_
 refine rq hC [] [2] [] [] [] (vj h (fun x_=>bA [(2,vB x_)] [] []) (fun j1 h=> ?_) (fun x3 h=> ?_))
 ·
  refine aR h (fun c1 h=> ?_) (fun c1 h=> ?_)
  ·exact rk hC (rF 3 c1) (fr 2 8) [(2,vB false)] [] [] (lE h)
  ·obtain⟨x2,hx2,h⟩:=bd h
   exact rk hC [oT c1,oT c1,oV (G.contains [65,66,67,68] s x2 hx2),oT c1] (fr 2 8) [(2,vB x2)] [] [] (lE h)
 ·obtain rfl:=so h
  exact qr eR
theorem I5(G:GS)(n:Nat)(s:Affine)(c0__a1:Int){r:Bool}(h:hS n s c0__a1=some r):PQ G 276 [V.agg (aK s),V.tp [T.int .i64 c0__a1]] (vB r):=by
 unfold hS at h
 refine pq aN Tryz.func276 rfl fun w X hC=> ?_
 refine rq hC [.z (.b (true))] [2,3] [(2,V.tp (aQ s))] [] [] (vj h (fun x_=>bA [(3,vB x_)] [] []) (fun j1 h=> ?_) (fun x4 h=> ?_))
 ·
  obtain⟨x2,hx2,h⟩:=bd h
  refine aR h (fun c1 h=> ?_) (fun c1 h=> ?_)
  ·obtain⟨x3,hx3,h⟩:=bd h
   exact dk hC bD ([oV (dN G hx2),oF c1,oF c1,oV (iD G hx3)]++rF 3 c1) (fr 3 10) [(3,vB (decide (c0__a1<x3)))] [] [] (lE h)
  ·exact dk hC bD ([oV (dN G hx2)]++rT 5 c1) (fr 3 10) [(3,vB true)] [] [] (lE h)
 ·obtain rfl:=so h
  exact qr eR
theorem mO{a}{depth}{r}(h:kX n a depth=some r):PQ G 231 [V.agg (b8 a),vI depth] (vB r):=by
 unfold kX at h
 refine pq aN Tryz.func231 rfl fun w X hC=> ?_
 refine rq hC [.z (.b (true)),.z (.b (true))] [2,3,4] [(2,V.tp (dC a)),(3,V.tp [T.int .i64 depth])] [] [] (vj h (fun x_=>bA [(4,vB x_)] [] []) (fun j1 h=> ?_) (fun x5 h=> ?_))
 ·
  obtain⟨x2,hx2,h⟩:=bd h
  refine aR h (fun c1 h=> ?_) (fun c1 h=> ?_)
  ·exact rk hC ([oV (eP G hx2)]++rF 5 c1++sF 6) (fr 4 17) [(4,vB false)] [] [] (lE h)
  ·obtain⟨x3,hx3,h⟩:=bd h
   refine aR h (fun c2 h=> ?_) (fun c2 h=> ?_)
   ·exact rk hC ([oV (eP G hx2)]++rT 3 c1++[oN aA a.subs,oT c1,oV (bH G hx3),oT c1]++rF 6 c2) (fr 4 17) [(4,vB false)] [] [] (lE h)
   ·obtain⟨x4,hx4,h⟩:=bd h
    exact rk hC ([oV (eP G hx2)]++rT 3 c1++[oN aA a.subs,oT c1,oV (bH G hx3),oT c1]++rT 4 c2++[oV (gR G n a.subs 276 [T.int .i64 depth] (fun q0=>hS n q0 depth) (fun q0 r h=>I5 G n q0 depth h) hx4),oT c2,oT c2]) (fr 4 17) [(4,vB (!x4))] [] [] (lE h)
 ·obtain rfl:=so h
  exact qr eR
theorem iC{a}{r}(h:kV n a=some r):PQ G 278 [V.agg (aK a)] (vB r):=by
 unfold kV at h
 refine pq aN Tryz.func278 rfl fun w X hC=> ?_
 refine rq hC [.z (.b (true))] [1,2] [(1,V.tp (aQ a))] [] [] (vj h (fun x_=>bA [(2,vB x_)] [] []) (fun j1 h=> ?_) (fun x2 h=> ?_))
 ·
  refine aR h (fun c1 h=> ?_) (fun c1 h=> ?_)
  ·exact rk hC ([oN rI a.coefs]++rF 4 c1) (fr 2 10) [(2,vB false)] [] [] (lE h)
  ·exact rk hC ([oN rI a.coefs]++rT 4 c1) (fr 2 10) [(2,vB (decide (a.const=0)))] [] [] (lE h)
 ·obtain rfl:=so h
  exact qr eR
theorem mN{a}{r}(h:gN n a=some r):PQ G 279 [V.agg (b8 a)] (vB r):=by
 unfold gN at h
 refine pq aN Tryz.func279 rfl fun w X hC=> ?_
 refine rq hC [.z (.b (true))] [1,2] [(1,V.tp (dC a))] [] [] (vj h (fun x_=>bA [(2,vB x_)] [] []) (fun j1 h=> ?_) (fun x2 h=> ?_))
 ·
  refine aR h (fun c1 h=> ?_) (fun c1 h=> ?_)
  ·exact rk hC (rF 5 c1) (fr 2 10) [(2,vB false)] [] [] (lE h)
  ·exact rk hC (rT 3 c1++[oN aA a.subs,oT c1,oT c1]) (fr 2 10) [(2,vB (decide ((a.subs.length:Int)=0)))] [] [] (lE h)
 ·obtain rfl:=so h
  exact qr eR
theorem V0(G:GS): ∀(n:Nat) (e:Expr) (depth:Int) (deep:Int) (count:Int) {r:Bool×Int} (h:i_exprScan n e depth deep count=some r),VQ G 232 [E.cells [vI count]] [V.agg (cN e),vI depth,vI deep,V.ref 0 0] (vB r.1) [E.cells [vI r.2]]:=by
 intro n
 induction n with
 |zero=>intro e depth deep count r h;rw [i_exprScan.eq_def] at h;cases h
 |succ n ih=>
  intro e depth deep count r h
  rw [i_exprScan.eq_def] at h;dsimp only at h
  refine vq aN Tryz.func232 rfl fun w X β0 hC hg=> ?_
  refine rq hC [.z (.b (true))] [4,8] [(4,V.tp (eU e))] [] [] (rq hC [] (fr 9 5) [] [(0,sc [vI (wr (count+1))])] [] (qs (vj h (fun x_=>bA [(1,vI depth),(2,vI deep),(3,V.ref 0 0),(4,V.tp (eU e)),(21,vB x_)] [(0,E.cells [vI (wr (count+1))])] [0]) (fun j1 h=> ?_) (fun x2 h=> ?_))))
  ·
   refine aR h (fun c1 h=> ?_) (fun c1 h=> ?_)
   ·exact rk hC (rF 3 c1) (fr 14 8) [(21,vB (decide ((5:Int)<deep)))] [] [] (lE h)
   ·exact rk hC (rT 3 c1) (fr 14 8) [(21,vB true)] [] [] (lE h)
  ·refine aT h (fun c2 h=> ?_) (fun c2 h=> ?_)
   ·obtain rfl:=so h
    exact rq hC [] [8] [(8,vB false)] [] [] (qr eW)
   ·refine qk (qs (vj h (fun x_=>bA [(1,vI depth),(2,vI deep),(3,V.ref 0 0),(4,V.tp (eU e)),(51,vB x_)] [(0,E.cells [vI (wr (count+1))])] [0]) (fun j3 h=> ?_) (fun x10 h=> ?_)))
    ·
     refine aR h (fun c3 h=> ?_) (fun c3 h=> ?_)
     ·refine aR h (fun c4 h=> ?_) (fun c4 h=> ?_)
      ·refine aR h (fun c5 h=> ?_) (fun c5 h=> ?_)
       ·exact rk hC (rF 4 c3++sF 4++rF 4 c4++[eF,oF c4]++sF 5++rF 4 c5++[eF,oF c5,eF]) (fr 22 30) [(51,vB false)] [] [] (lE h)
       ·obtain⟨x4,hx4,h⟩:=bd h
        exact rk hC (rF 4 c3++sF 4++rF 4 c4++[eF,oF c4]++sF 5++rT 3 c5++[oV (mN G hx4),oT c5,eF,oT c5,eF]) (fr 22 30) [(51,vB (!x4))] [] [] (lE h)
      ·obtain⟨x5,hx5,h⟩:=bd h
       refine aR h (fun c6 h=> ?_) (fun c6 h=> ?_)
       ·refine aR h (fun c7 h=> ?_) (fun c7 h=> ?_)
        ·exact rk hC (rF 4 c3++sF 4++rT 3 c4++[oV (iC G hx5),oT c4,eF,oT c4,eF]++rF 4 c6++rF 4 c7++[oF c6,oF c7,oF c6]) (fr 22 30) [(51,vB false)] [] [] (lE h)
        ·obtain⟨x6,hx6,h⟩:=bd h
         exact rk hC (rF 4 c3++sF 4++rT 3 c4++[oV (iC G hx5),oT c4,eF,oT c4,eF]++rF 4 c6++rT 3 c7++[oV (mN G hx6),oT c7,oF c6,oT c7,oF c6]) (fr 22 30) [(51,vB (!x6))] [] [] (lE h)
       ·exact rk hC (rF 4 c3++sF 4++rT 3 c4++[oV (iC G hx5),oT c4,eF,oT c4,eF]++rT 6 c6) (fr 22 30) [(51,vB true)] [] [] (lE h)
     ·refine aR h (fun c8 h=> ?_) (fun c8 h=> ?_)
      ·refine aR h (fun c9 h=> ?_) (fun c9 h=> ?_)
       ·refine aR h (fun c10 h=> ?_) (fun c10 h=> ?_)
        ·exact rk hC (rT 4 c3++rF 4 c8++rF 4 c9++[oF c8,oF c9,oF c8]++sF 4++rF 4 c10++[eF,oF c10,eF]) (fr 22 30) [(51,vB false)] [] [] (lE h)
        ·obtain⟨x7,hx7,h⟩:=bd h
         exact rk hC (rT 4 c3++rF 4 c8++rF 4 c9++[oF c8,oF c9,oF c8]++sF 4++rT 3 c10++[oV (mN G hx7),oT c10,eF,oT c10,eF]) (fr 22 30) [(51,vB (!x7))] [] [] (lE h)
       ·obtain⟨x8,hx8,h⟩:=bd h
        refine aR h (fun c11 h=> ?_) (fun c11 h=> ?_)
        ·refine aR h (fun c12 h=> ?_) (fun c12 h=> ?_)
         ·exact rk hC (rT 4 c3++rF 4 c8++rT 3 c9++[oV (iC G hx8),oT c9,oF c8,oT c9,oF c8]++rF 4 c11++rF 4 c12++[oF c11,oF c12,oF c11]) (fr 22 30) [(51,vB false)] [] [] (lE h)
         ·obtain⟨x9,hx9,h⟩:=bd h
          exact rk hC (rT 4 c3++rF 4 c8++rT 3 c9++[oV (iC G hx8),oT c9,oF c8,oT c9,oF c8]++rF 4 c11++rT 3 c12++[oV (mN G hx9),oT c12,oF c11,oT c12,oF c11]) (fr 22 30) [(51,vB (!x9))] [] [] (lE h)
        ·exact rk hC (rT 4 c3++rF 4 c8++rT 3 c9++[oV (iC G hx8),oT c9,oF c8,oT c9,oF c8]++rT 6 c11) (fr 22 30) [(51,vB true)] [] [] (lE h)
      ·exact rk hC (rT 4 c3++rT 6 c8++sT 6) (fr 22 30) [(51,vB true)] [] [] (lE h)
    ·refine aT h (fun c13 h=> ?_) (fun c13 h=> ?_)
     ·obtain rfl:=so h
      exact rq hC [] [8] [(8,vB false)] [] [] (qr eW)
     ·refine qk (qs (qb (rq hC [] (fr 52 4) [(52,vB (decide (e.kind=1)))] [] [] (aT h (fun c14 h=> ?_) (fun c14 h=> ?_)))))
      ·refine vj h (fun x_=>bA [(8,vB x_)] [(0,E.cells [vI (wr (count+1))])] [0]) (fun j11 h=> ?_) (fun x13 h=> ?_)
       ·
        obtain⟨x12,hx12,h⟩:=bd h
        refine aR h (fun c15 h=> ?_) (fun c15 h=> ?_)
        ·exact rk hC ([oV (bH G hx12)]++rF 5 c15) [8,56,57,58,59,60,61,62,63,64] [(8,vB false)] [] [] (lE h)
        ·exact rk hC ([oV (bH G hx12)]++rT 3 c15++[oN aH e.kids,oT c15,oT c15]) [8,56,57,58,59,60,61,62,63,64] [(8,vB (decide ((e.kids.length:Int)=0)))] [] [] (lE h)
       ·obtain rfl:=so h
        exact qr eW
      ·refine rq hC [] (fr 65 4) [(65,vB (decide (e.kind=2)))] [] [] (aT h (fun c16 h=> ?_) (fun c16 h=> ?_))
       ·refine vj h (fun x_=>bA [(8,vB x_)] [(0,E.cells [vI (wr (count+1))])] [0]) (fun j14 h=> ?_) (fun x17 h=> ?_)
        ·
         obtain⟨x15,hx15,h⟩:=bd h
         refine aR h (fun c17 h=> ?_) (fun c17 h=> ?_)
         ·exact rk hC ([oV (dN G hx15)]++rF 6 c17++sF 5) [8,69,70,71,72,73,74,75,76,77,78,79,80,81,82,83,84] [(8,vB false)] [] [] (lE h)
         ·obtain⟨x16,hx16,h⟩:=bd h
          refine aR h (fun c18 h=> ?_) (fun c18 h=> ?_)
          ·exact rk hC ([oV (dN G hx15)]++rT 3 c17++[oV (iD G hx16)]++rT 3 c17++rF 5 c18) [8,69,70,71,72,73,74,75,76,77,78,79,80,81,82,83,84] [(8,vB false)] [] [] (lE h)
          ·exact rk hC ([oV (dN G hx15)]++rT 3 c17++[oV (iD G hx16)]++rT 3 c17++rT 3 c18++[oN aH e.kids,oT c18,oT c18]) [8,69,70,71,72,73,74,75,76,77,78,79,80,81,82,83,84] [(8,vB (decide ((e.kids.length:Int)=0)))] [] [] (lE h)
        ·obtain rfl:=so h
         exact qr eW
       ·refine rq hC [] (fr 85 4) [(85,vB (decide (e.kind=3)))] [] [] (aT h (fun c19 h=> ?_) (fun c19 h=> ?_))
        ·refine vj h (fun x_=>bA [(8,vB x_)] [(0,E.cells [vI (wr (count+1))])] [0]) (fun j18 h=> ?_) (fun x20 h=> ?_)
         ·
          obtain⟨x19,hx19,h⟩:=bd h
          refine aR h (fun c20 h=> ?_) (fun c20 h=> ?_)
          ·exact rk hC ([oV (mO G hx19)]++rF 5 c20) [8,89,90,91,92,93,94,95,96,97,98] [(8,vB false)] [] [] (lE h)
          ·exact rk hC ([oV (mO G hx19)]++rT 3 c20++[oN aH e.kids,oT c20,oT c20]) [8,89,90,91,92,93,94,95,96,97,98] [(8,vB (decide ((e.kids.length:Int)=0)))] [] [] (lE h)
         ·obtain rfl:=so h
          exact qr eW
        ·refine vj h (fun x_=>bA [(1,vI depth),(2,vI deep),(3,V.ref 0 0),(4,V.tp (eU e)),(99,vB x_)] [(0,E.cells [vI (wr (count+1))])] [0]) (fun j21 h=> ?_) (fun x23 h=> ?_)
         ·
          obtain⟨x22,hx22,h⟩:=bd h
          refine aR h (fun c21 h=> ?_) (fun c21 h=> ?_)
          ·exact rk hC ([oV (aAL G hx22)]++rF 3 c21++[oN aH e.kids,oF c21,oF c21]) (fr 99 11) [(99,vB (!decide ((e.kids.length:Int)=2)))] [] [] (lE h)
          ·exact rk hC ([oV (aAL G hx22)]++rT 5 c21) (fr 99 11) [(99,vB true)] [] [] (lE h)
         ·refine aT h (fun c22 h=> ?_) (fun c22 h=> ?_)
          ·obtain rfl:=so h
           exact rq hC [] [8] [(8,vB false)] [] [] (qr eW)
          ·refine qk (vj h (fun x_=>bA [(8,vB x_.2)] [(0,E.cells [vI x_.1])] [0]) (fun j24 h=> ?_) ?_)
           ·
            obtain⟨x25,hx25,x26,hx26,h⟩:=cT h
            refine aR h (fun c23 h=> ?_) (fun c23 h=> ?_)
            ·exact rk hC ([.z (.row (d6 x25)),oQ (eV aH hx25 (cS x25)),oC [0] [] (ih x25 depth (wr (deep+1)) (wr (count+1)) hx26)]++rF 10 c23) [8,110,111,112,113,114,115,116,117,118,119,120,121,122,123,124,125,126,127,128,129] [(8,vB false)] [(0,sc [vI x26.2])] [(0,true)] (lE h)
            ·obtain⟨x27,hx27,x28,hx28,h⟩:=cT h
             exact rk hC ([.z (.row (d6 x25)),oQ (eV aH hx25 (cS x25)),oC [0] [] (ih x25 depth (wr (deep+1)) (wr (count+1)) hx26)]++rT 3 c23++[.z (.row (d6 x27)),oQ (eV aH hx27 (cS x27))]++rT 6 c23++[oC [0] [] (ih x27 depth (wr (deep+1)) x26.2 hx28),oT c23]) [8,110,111,112,113,114,115,116,117,118,119,120,121,122,123,124,125,126,127,128,129] [(8,vB x28.1)] [(0,sc [vI x28.2])] [(0,true),(0,true)] (lE h)
           ·rintro⟨x29,x30⟩ h
            obtain rfl:=so h
            exact qr eW
theorem K9{s}{depth}{r}(h:lU n s depth=some r):PQ G 163 [V.agg (cV s),vI depth] (vB r):=by
 unfold lU at h
 refine pq aN Tryz.func163 rfl fun w X hC=> ?_
 refine rq hC [.z (.b (true))] [2,4] [(2,V.tp (m5 s))] [] [] (rq hC [.z (.nat 20)] [5] [(5,V.ref 20 0)] [(20,sc [vI 0])] [(20,true)] (vj h (fun x_=>bA [(4,vB x_.2)] [(20,E.cells [vI x_.1])] [20]) (fun j1 h=> ?_) ?_))
 ·
  obtain⟨x2,hx2,h⟩:=bd h
  refine aR h (fun c1 h=> ?_) (fun c1 h=> ?_)
  ·exact rk hC ([oV (bH G hx2)]++rF 5 c1++sF 5) [4,6,7,8,9,10,11,12,13,14,15,16,17,18,19] [(4,vB false)] [] [] (lE h)
  ·obtain⟨x3,hx3,h⟩:=bd h
   refine aR h (fun c2 h=> ?_) (fun c2 h=> ?_)
   ·exact rk hC ([oV (bH G hx2)]++rT 4 c1++[oV (mO G hx3),oT c1]++rF 5 c2) [4,6,7,8,9,10,11,12,13,14,15,16,17,18,19] [(4,vB false)] [] [] (lE h)
   ·obtain⟨x4,hx4,h⟩:=bd h
    exact rk hC ([oV (bH G hx2)]++rT 4 c1++[oV (mO G hx3),oT c1]++rT 4 c2++[oC [20] [] (V0 G n s.value depth 1 0 hx4),oT c2]) [4,6,7,8,9,10,11,12,13,14,15,16,17,18,19] [(4,vB x4.1)] [(20,sc [vI x4.2])] [(20,true)] (lE h)
 ·rintro⟨x5,x6⟩ h
  obtain rfl:=so h
  exact qr eR
theorem pM(G:GS)(n:Nat)(s:Stmt)(c0__a1:Part){r:Bool}(h:cC n s c0__a1=some r):PQ G 162 [V.agg (cV s),V.tp (iZ c0__a1)] (vB r):=by
 unfold cC at h
 refine pq aN Tryz.func162 rfl fun w X hC=> ?_
 refine rq hC [.z (.b (true))] [2,3] [(2,V.tp (m5 s))] [] [] ?_
 obtain⟨x1,hx1,h⟩:=bd h
 obtain rfl:=so h
 exact rq hC [oN aC c0__a1.nest,oV (K9 G hx1)] (fr 3 7) [(3,vB (!x1))] [] [] (qr eR)
end Go.Lift
