/- The walks: the code computes what the plain functions say. -/
import Derived.Test.YtiplelpjhgnmoaaGreatHModels
import Derived.Test.YtiplelpjhgnmoaaGreatHWalks0
set_option maxRecDepth 10000
set_option linter.unusedVariables false
namespace Go.Lift
open Go Go.Proofs
variable (G:GS) {n:Nat}
theorem aEz(G:GS): ∀(n:Nat) (nest:List Loop) (p:List Int) (most:Int) {r:Int} (h:s_l2Work n nest p most=some r),PQ G 212 [vM aC nest,vM rI p,vI most] (vI r):=by
 intro n
 induction n with
 |zero=>intro nest p most r h;rw [s_l2Work.eq_def] at h;cases h
 |succ n ih=>
  intro nest p most r h
  rw [s_l2Work.eq_def] at h;dsimp only at h
  refine pq aN Tryz.func212 rfl fun w X hC=> ?_
  refine rq hC [] [6] [] [] [] (rq hC [] [7] [(7,vI 1)] [] [] (qs (rq hC [oN rI p,oN aC nest] (fr 11 5) [(15,vB (decide ((p.length:Int)=(nest.length:Int))))] [] [] (aT h (fun c1 h=> ?_) (fun c1 h=> ?_)))))
  ·obtain rfl:=so h
   exact rq hC [] [6,16] [(6,vI 1)] [] [] (qr eR)
  ·refine qk ?_
   obtain⟨x1,hx1,x2,hx2,h⟩:=cV h
   refine rq hC [oN rI p,oR aC hx1,oV (F0 G hx2)] [8,9,17,18,19,20,21,22,23,24,25,26] [(8,vI x2.1),(9,vI x2.2)] [] [] (qs (rq hC [] [10,27] [(10,vI x2.1)] [] [] (qb (jG h (fun x_=>aW [(0,vM aC nest),(1,vM rI p),(2,vI most),(7,vI x_.1),(9,vI x2.2),(10,vI x_.2)] [] []) lS ?_))))
   rintro again5 ⟨x3,x4⟩ h
   refine qs (vj h (fun x_=>aW [(0,vM aC nest),(1,vM rI p),(2,vI most),(7,vI x3),(9,vI x2.2),(10,vI x4),(35,vB x_)] [] []) (fun j6 h=> ?_) (fun x7 h=> ?_))
   ·
    refine aS h (fun c2 h=> ?_) (fun c2 h=> ?_)
    ·exact rk hC (rF 4 c2) (fr 28 8) [(35,vB false)] [] [] (lE h)
    ·exact rk hC (rT 4 c2) (fr 28 8) [(35,vB (decide (x3≤most)))] [] [] (lE h)
   ·refine aT h (fun c3 h=> ?_) (fun c3 h=> ?_)
    ·refine qk (qs (qb ?_))
     obtain⟨x8,hx8,x9,hx9,x10,hx10,h⟩:=jI h
     exact rk hC [.z (.nat 20),oA (aO rI hx8),.z (.int 0),oQ (bP (r:=rI) 1 (fun _=>rfl) []),oQ (bP (r:=rI) 1 (fun _=>rfl) p),oA (aO rI hx9),.z (.b (true)),oQ (bP (r:=rI) 1 (fun _=>rfl) x8),oQ (bP (r:=rI) 1 (fun _=>rfl) [x4]),oV (ih nest x9 (wr (most-x3)) hx10)] [7,38,39,40,41,42,43,44,45,46,47,48,49,50] [(7,vI (wr (x3+x10)))] [(20,some (ar 3 3 1 rI x9))] [(20,true)] (rk hC [] [10,36,37] [(10,vI (wr (x4+1)))] [] [] (lE h))
    ·obtain rfl:=so h
     exact cK (rq hC [] [6,51] [(6,vI x3)] [] [] (qr eR))
theorem aBp(G:GS): ∀(n:Nat) (out:List (List Int)) (outG:Nat) (nest:List Loop) (p:List Int) {r:(List (List Int))} (h:s_l2Points n out nest p=some r),VQ G 213 [ar 33 outG 1 (rL rI) out] [ms 0 outG 1 (rL rI) out,vM aC nest,vM rI p] (ms 0 (outG+1) 1 (rL rI) r) [ar 33 (outG+1) 1 (rL rI) r]:=by
 intro n
 induction n with
 |zero=>intro out outG nest p r h;rw [s_l2Points.eq_def] at h;cases h
 |succ n ih=>
  intro out outG nest p r h
  rw [s_l2Points.eq_def] at h;dsimp only at h
  refine vq aN Tryz.func213 rfl fun w X β0 hC hg=> ?_
  refine rq hC [] [6] [] [] [] (qs (rq hC [oN rI p,oN aC nest] (fr 10 5) [(14,vB (decide ((p.length:Int)=(nest.length:Int))))] [] [] (aT h (fun c1 h=> ?_) (fun c1 h=> ?_))))
  ·obtain⟨x1,hx1,x2,hx2,h⟩:=cV h
   obtain rfl:=so h
   exact rq hC [.z (.nat 20),oA (aO rI hx1),.z (.at 3),.z (.fz 20 [18] []),.z (.int 0),oQ (bP (r:=rI) 1 (fun _=>rfl) []),oQ (bP (r:=rI) 1 (fun _=>rfl) p),oA (aO (rL rI) hx2),oQ (bP (r:=(rL rI)) 1 (fun _=>rfl) out),oQ (bP (r:=(rL rI)) 1 (fun _=>rfl) [x1])] [0,6,15,16,17,18,19,20] [(6,ms 0 (outG+1) 1 (rL rI) x2)] [(20,none),(0,some (ar 33 (outG+1) 1 (rL rI) x2))] [(20,true)] (qw (uU 6 0 outG (outG+1) 1 0 (List.map (rL rI) x2).length (e:= .arr 33 (outG+1) 1 (List.map (rL rI) x2)) rfl (by kernel_rfl) (by kernel_rfl) rfl rfl hg.1) (qr eW))
  ·refine qk ?_
   obtain⟨x3,hx3,x4,hx4,h⟩:=cV h
   refine rq hC [oN rI p,oR aC hx3,oV (F0 G hx4)] [7,8,21,22,23,24,25,26,27,28,29,30] [(7,vI x4.1),(8,vI x4.2)] [] [] (qs (rq hC [] [9,31] [(9,vI x4.1)] [] [] (qb (aZ (γ:=Nat) h (fun x_ g_=>aW [(0,ms 0 g_ 1 (rL rI) x_.1),(1,vM aC nest),(2,vM rI p),(8,vI x4.2),(9,vI x_.2)] [(0,ar 33 g_ 1 (rL rI) x_.1)] [0]) outG (lS) ?_))))
   rintro again8 ⟨x5,x6⟩ g7 h
   refine qs (vj h (fun x_=>aW [(0,ms 0 g7 1 (rL rI) x5),(1,vM aC nest),(2,vM rI p),(8,vI x4.2),(9,vI x6),(39,vB x_)] [(0,ar 33 g7 1 (rL rI) x5)] [0]) (fun j9 h=> ?_) (fun x10 h=> ?_))
   ·
    refine aS h (fun c2 h=> ?_) (fun c2 h=> ?_)
    ·exact rk hC (rF 4 c2) (fr 32 8) [(39,vB false)] [] [] (lE h)
    ·exact rk hC [oT c2,oT c2,oN (rL rI) x5,oT c2,oT c2] (fr 32 8) [(39,vB (decide ((x5.length:Int)≤120)))] [] [] (lE h)
   ·refine aT h (fun c3 h=> ?_) (fun c3 h=> ?_)
    ·refine qk (qs (qb ?_))
     obtain⟨x11,hx11,x12,hx12,x13,hx13,h⟩:=jI h
     exact rk hC [.z (.nat 20),oA (aO rI hx11),.z (.int 0),oQ (bP (r:=rI) 1 (fun _=>rfl) []),oQ (bP (r:=rI) 1 (fun _=>rfl) p),oA (aO rI hx12),.z (.at 2),.z (.fz 20 [49] []),oQ (bP (r:=rI) 1 (fun _=>rfl) x11),oQ (bP (r:=rI) 1 (fun _=>rfl) [x6]),oC [0] [] (ih x5 g7 nest x12 hx13)] [0,42,43,44,45,46,47,48,49,50] [(0,ms 0 (g7+1) 1 (rL rI) x13)] [(20,none),(0,some (ar 33 (g7+1) 1 (rL rI) x13))] [(20,true),(0,true)] (rk hC [] [9,40,41] [(9,vI (wr (x6+1)))] [] [] ⟨(x13,wr (x6+1)),(g7+1),h,lS⟩)
    ·obtain rfl:=so h
     exact cK (rq hC [] [6,51] [(6,ms 0 g7 1 (rL rI) x5)] [] [] (qw (uU 6 0 outG g7 1 0 (List.map (rL rI) x5).length (e:= .arr 33 g7 1 (List.map (rL rI) x5)) rfl (by kernel_rfl) (by kernel_rfl) rfl rfl hg.1) (qr eW)))
theorem T6{nest}{r}(h:kX n nest=some r):VQ G 157 [] [vM aC nest] (V.tup [ms 0 1 1 (rL rI) r.1,vB r.2]) [ar 33 1 1 (rL rI) r.1]:=by
 unfold kX at h
 refine vq aN Tryz.func157 rfl fun w X β0 hC hg=> ?_
 refine rq hC [] [2,3] [] [] [] (qs (vj h (fun x_=>aW [(0,vM aC nest),(12,vB x_)] [] []) (fun j1 h=> ?_) (fun x4 h=> ?_)))
 ·
  obtain⟨x2,hx2,h⟩:=bd h
  refine aS h (fun c1 h=> ?_) (fun c1 h=> ?_)
  ·obtain⟨x3,hx3,h⟩:=bd h
   exact rk hC [oV (wF G hx2),oF c1,oF c1,oV (aEz G n nest [] 1200 hx3),oF c1,oF c1] (fr 5 8) [(12,vB (decide ((1200:Int)<x3)))] [] [] (lE h)
  ·exact rk hC ([oV (wF G hx2)]++rT 4 c1) (fr 5 8) [(12,vB true)] [] [] (lE h)
 ·refine aT h (fun c2 h=> ?_) (fun c2 h=> ?_)
  ·obtain rfl:=so h
   exact rq hC [.z (.nat 20)] [2,3,13] [(2,ms 20 1 1 (rL rI) []),(3,vB false)] [(20,some (ar 33 1 1 (rL rI) []))] [(20,true)] (qw (lk hC [.ren 2 20 0] [2] [(2,ms 0 1 1 (rL rI) [])] [(0,some (ar 33 1 1 (rL rI) [])),(20,none)] [(0,true)]) (qr eW))
  ·refine qk ?_
   obtain⟨x5,hx5,h⟩:=bd h
   refine rq hC [.z (.nat 20),oC [20] [] (aBp G n [] 1 nest [] hx5)] [4,14,15,16] [(4,ms 20 2 1 (rL rI) x5)] [(20,some (ar 33 2 1 (rL rI) x5))] [(20,true),(20,true)] (qs (rq hC [oN (rL rI) x5] [17,18,19] [(19,vB (decide ((120:Int)<(x5.length:Int))))] [] [] (aT h (fun c3 h=> ?_) (fun c3 h=> ?_))))
   ·obtain rfl:=so h
    exact rq hC [.z (.nat 21)] [2,3,20] [(2,ms 21 1 1 (rL rI) []),(3,vB false)] [(21,some (ar 33 1 1 (rL rI) []))] [(21,true)] (qw (lk hC [.ren 2 21 0] [2] [(2,ms 0 1 1 (rL rI) [])] [(0,some (ar 33 1 1 (rL rI) [])),(21,none)] [(0,true)]) (qr eW))
   ·obtain rfl:=so h
    exact qk (rq hC [] [2,3,21] [(2,ms 20 2 1 (rL rI) x5),(3,vB true)] [] [] (qw (lk hC [.ren 2 20 0] [2] [(2,ms 0 1 1 (rL rI) x5)] [(0,some (ar 33 1 1 (rL rI) x5)),(20,none)] [(0,true)]) (qr eW)))
theorem aCN(G:GS): ∀(n:Nat) (out:List Access) (outG:Nat) (e:Expr) {r:(List Access)} (h:s_l3Reads n out e=some r),VQ G 217 [ar 82 outG 2 aV out] [ms 0 outG 2 aV out,V.agg (dB e)] (ms 0 (outG+1) 2 aV r) [ar 82 (outG+1) 2 aV r]:=by
 intro n
 induction n with
 |zero=>intro out outG e r h;rw [s_l3Reads.eq_def] at h;cases h
 |succ n ih=>
  intro out outG e r h
  rw [s_l3Reads.eq_def] at h;dsimp only at h
  refine vq aN Tryz.func217 rfl fun w X β0 hC hg=> ?_
  refine rq hC [.z (.b (true))] [3,4] [(3,V.tp (fM e))] [] [] ?_
  obtain⟨j1,hj1,h⟩:=A8 h
  refine kQ (γ:=Nat) (j:=j1) (r:=r) (fun x_ g_=>aW [(0,ms 0 g_ 2 aV x_),(3,V.tp (fM e))] [(0,ar 82 g_ 2 aV x_)] [0]) ?_ ?_
  ·
   refine rq hC [] [6,7,8] [(8,vB (decide (e.kind=3)))] [] [] (aT h (fun c1 h=> ?_) (fun c1 h=> ?_))
   ·obtain⟨x2,hx2,x3,hx3,h⟩:=cV h
    exact rk hC [oC [] [20] (mE G hx2),.z (.at 3),.z (.fz 20 [12] []),.z (.int 0),oA (aO aV hx3),oQ (bP (r:=aV) 2 pN out),oQ (bP (r:=aV) 2 pN [x2])] [0,9,10,11,12,13,14] [(0,ms 0 (outG+1) 2 aV x3)] [(20,none),(0,some (ar 82 (outG+1) 2 aV x3))] [(20,true)] ⟨x3,(outG+1),h,lS⟩
   ·exact qk ⟨out,outG,h,lS⟩
  ·rintro x4 g5 h
   subst hj1
   refine qs (rq hC [] [5] [(5,vI 0)] [] [] (qb (aZ (γ:=Nat) h (fun x_ g_=>aW [(0,ms 0 g_ 2 aV x_.1),(3,V.tp (fM e)),(5,vI x_.2)] [(0,ar 82 g_ 2 aV x_.1)] [0]) g5 (lS) ?_)))
   rintro again9 ⟨x6,x7⟩ g8 h
   refine qs (rq hC [oN aJ e.kids] (fr 15 5) [(19,vB (decide (x7<(e.kids.length:Int))))] [] [] (aT h (fun c2 h=> ?_) (fun c2 h=> ?_)))
   ·refine qk (qs (qb ?_))
    obtain⟨x10,hx10,x11,hx11,h⟩:=cV h
    exact rk hC [.z (.row (eM x10)),oQ (fO aJ hx10 (dC x10)),oC [0] [] (ih x6 g8 x10 hx11)] [0,22,23,24,25,26,27,28] [(0,ms 0 (g8+1) 2 aV x11)] [(0,some (ar 82 (g8+1) 2 aV x11))] [(0,true)] (rk hC [] [5,20,21] [(5,vI (wr (x7+1)))] [] [] ⟨(x11,wr (x7+1)),(g8+1),h,lS⟩)
   ·obtain rfl:=so h
    exact cK (rq hC [] [4,29] [(4,ms 0 g8 2 aV x6)] [] [] (qw (uU 4 0 outG g8 2 0 (List.map aV x6).length (e:= .arr 82 g8 2 (List.map aV x6)) rfl (by kernel_rfl) (by kernel_rfl) rfl rfl hg.1) (qr eW)))
theorem aEu{a}{r}(h:tP n a=some r):PQ G 257 [V.agg [vS a.name,vM rI a.dims]] (vI r):=by
 unfold tP at h
 refine pq aN Tryz.func257 rfl fun w X hC=> ?_
 refine rq hC [.z (.b (true))] [1,2] [(1,V.tp [T.str a.name,T.sl (List.map rI a.dims)])] [] [] (rq hC [] [3] [(3,vI 1)] [] [] (qs (rq hC [] [4] [(4,vI 0)] [] [] (qb (jG h (fun x_=>aW [(1,V.tp [T.str a.name,T.sl (List.map rI a.dims)]),(3,vI x_.1),(4,vI x_.2)] [] []) lS ?_)))))
 rintro again3 ⟨x1,x2⟩ h
 refine qs (rq hC [oN rI a.dims] (fr 5 5) [(9,vB (decide (x2<(a.dims.length:Int))))] [] [] (aT h (fun c1 h=> ?_) (fun c1 h=> ?_)))
 ·refine qk (qs (qb ?_))
  obtain⟨x4,hx4,h⟩:=bd h
  exact rk hC [oR rI hx4] [3,12,13,14,15,16,17,18] [(3,vI (wr (x1*x4)))] [] [] (rk hC [] [4,10,11] [(4,vI (wr (x2+1)))] [] [] (lE h))
 ·obtain rfl:=so h
  exact cK (rq hC [] [2,19] [(2,vI x1)] [] [] (qr eR))
theorem S3{list}{a}{point}{r}(h:qQ n list a point=some r):PQ G 218 [vM aI list,V.agg (cD a),vM rI point] (vI r):=by
 unfold qQ at h
 refine pq aN Tryz.func218 rfl fun w X hC=> ?_
 refine rq hC [.z (.b (true))] [4,6] [(4,V.tp (dO a))] [] [] (rq hC [] [7] [(7,vI 0)] [] [] (qs (rq hC [] [8] [(8,vI 0)] [] [] (qb (jG h (fun x_=>aW [(0,vM aI list),(2,vM rI point),(4,V.tp (dO a)),(7,vI x_.1),(8,vI x_.2)] [] []) lS ?_)))))
 rintro again3 ⟨x1,x2⟩ h
 refine qs (rq hC [oN aI list] (fr 12 4) [(15,vB (decide (x2<(list.length:Int))))] [] [] (aT h (fun c1 h=> ?_) (fun c1 h=> ?_)))
 ·refine qk (qs (qb (qs (qs ?_))))
  obtain⟨x4,hx4,h⟩:=bd h
  refine dk hC bD [oR aI hx4] (fr 18 8) [(25,vB (!decide (x4.name=a.array)))] [] [] (aT h (fun c2 h=> ?_) (fun c2 h=> ?_))
  ·obtain⟨x5,hx5,h⟩:=bd h
   exact rq hC [oR aI hx4,oV (aEu G hx5)] [7,26,27,28,29,30,31,32] [(7,vI (wr (x1+x5)))] [] [] (cK (rk hC [] [8,16,17] [(8,vI (wr (x2+1)))] [] [] (lE h)))
  ·refine qk (rq hC [] [9] [(9,vI 0)] [] [] (qs (rq hC [] [10] [(10,vI 0)] [] [] (qb (jG h (fun x_=>aW [(0,vM aI list),(2,vM rI point),(4,V.tp (dO a)),(7,vI x1),(8,vI x2),(9,vI x_.1),(10,vI x_.2)] [] []) lS ?_)))))
   rintro again8 ⟨x6,x7⟩ h
   refine qs (rq hC [oN aA a.subs] (fr 33 5) [(37,vB (decide (x7<(a.subs.length:Int))))] [] [] (aT h (fun c3 h=> ?_) (fun c3 h=> ?_)))
   ·refine qk (qs (qb (qs (qs (dk hC bD [oN aA a.subs,oR aI hx4,oN rI x4.dims] (fr 40 10) [(49,vB (!decide ((a.subs.length:Int)=(x4.dims.length:Int))))] [] [] ?_)))))
    refine aT h (fun c4 h=> ?_) (fun c4 h=> ?_)
    ·obtain rfl:=so h
     exact rq hC [] [6] [(6,vI (-1))] [] [] (qr eR)
    ·refine qk ?_
     obtain⟨x9,hx9,x10,hx10,h⟩:=cV h
     refine rq hC [oR aA hx9,oV (pF G hx10)] [11,50,51,52,53,54,55,56] [(11,vI x10)] [] [] (qs (vj h (fun x_=>aW [(0,vM aI list),(2,vM rI point),(4,V.tp (dO a)),(7,vI x1),(8,vI x2),(9,vI x6),(10,vI x7),(11,vI x10),(70,vB x_)] [] []) (fun j11 h=> ?_) (fun x13 h=> ?_)))
     ·
      refine aS h (fun c5 h=> ?_) (fun c5 h=> ?_)
      ·obtain⟨x12,hx12,h⟩:=bd h
       exact rk hC (rF 4 c5++[oR aI hx4]++rF 4 c5++[oR rI hx12]++rF 3 c5) (fr 57 14) [(70,vB (decide (x12≤x10)))] [] [] (lE h)
      ·exact rk hC (rT 11 c5) (fr 57 14) [(70,vB true)] [] [] (lE h)
     ·refine aT h (fun c6 h=> ?_) (fun c6 h=> ?_)
      ·obtain rfl:=so h
       exact rq hC [] [6] [(6,vI (-1))] [] [] (qr eR)
      ·refine qk ?_
       obtain⟨x14,hx14,h⟩:=bd h
       exact rk hC [oR aI hx4,oR rI hx14] [9,71,72,73,74,75,76,77,78,79,80,81,82] [(9,vI (wr ((wr (x6*x14))+x10)))] [] [] (rk hC [] [10,38,39] [(10,vI (wr (x7+1)))] [] [] (lE h))
   ·obtain rfl:=so h
    exact cK (rq hC [] [6,83,84,85] [(6,vI (wr (x1+x6)))] [] [] (qr eR))
 ·obtain rfl:=so h
  exact cK (rq hC [] [6] [(6,vI (-1))] [] [] (qr eR))
theorem aCI{list}{s}{point}{r}(h:qP n list s point=some r):VQ G 159 [] [vM aI list,V.agg (cR s),vM rI point] (V.tup [ms 0 1 1 rI r.1,vI r.2.1,vB r.2.2]) [ar 3 1 1 rI r.1]:=by
 unfold qP at h
 refine vq aN Tryz.func159 rfl fun w X β0 hC hg=> ?_
 refine rq hC [.z (.b (true))] [4,6,7,8] [(4,V.tp (oG s))] [] [] (rq hC [.z (.nat 20)] [9,14] [(9,ms 20 1 1 rI [])] [(20,some (ar 3 1 1 rI []))] [(20,true)] ?_)
 obtain⟨x1,hx1,h⟩:=bd h
 refine rq hC [.z (.nat 21),oC [21] [] (aCN G n [] 1 s.value hx1)] [10,15,16,17,18] [(10,ms 21 2 2 aV x1)] [(21,some (ar 82 2 2 aV x1))] [(21,true),(21,true)] (qs (rq hC [] [11] [(11,vI 0)] [] [] (qb (aZ (γ:=Nat) h (fun x_ g_=>aW [(0,vM aI list),(2,vM rI point),(4,V.tp (oG s)),(9,ms 20 g_ 1 rI x_.1),(10,ms 21 2 2 aV x1),(11,vI x_.2)] [(20,ar 3 g_ 1 rI x_.1),(21,ar 82 2 2 aV x1)] [20,21]) 1 (lS) ?_))))
 rintro again5 ⟨x2,x3⟩ g4 h
 refine qs (rq hC [oN aV x1] (fr 19 4) [(22,vB (decide (x3<(x1.length:Int))))] [] [] (aT h (fun c1 h=> ?_) (fun c1 h=> ?_)))
 ·refine qk (qs (qb ?_))
  obtain⟨x6,hx6,x7,hx7,h⟩:=cV h
  refine rq hC [oQ (jO aV hx6),oX aV hx6,oV (S3 G hx7)] [12,25,26,27,28,29,30,31] [(12,vI x7)] [] [] (qs (rq hC [] [32,33] [(33,vB (decide (x7<0)))] [] [] (aT h (fun c2 h=> ?_) (fun c2 h=> ?_))))
  ·obtain rfl:=so h
   exact rq hC [.z (.nat 22)] [6,7,8,34] [(6,ms 22 1 1 rI []),(7,vI 0),(8,vB false)] [(22,some (ar 3 1 1 rI []))] [(22,true)] (qw (lk hC [.ren 6 22 0] [6] [(6,ms 0 1 1 rI [])] [(0,some (ar 3 1 1 rI [])),(22,none)] [(0,true)]) (qr eW))
  ·refine qk ?_
   obtain⟨x8,hx8,h⟩:=bd h
   exact rk hC [.z (.int 0),oA (aO rI hx8),oQ (bP (r:=rI) 1 (fun _=>rfl) x2),oQ (bP (r:=rI) 1 (fun _=>rfl) [x7])] [9,35,36,37,38] [(9,ms 20 (g4+1) 1 rI x8)] [(20,some (ar 3 (g4+1) 1 rI x8))] [] (rk hC [] [11,23,24] [(11,vI (wr (x3+1)))] [] [] ⟨(x8,wr (x3+1)),(g4+1),h,lS⟩)
 ·refine cK ?_
  obtain⟨x9,hx9,h⟩:=bd h
  refine rq hC [oV (S3 G hx9)] [13,39,40,41,42,43] [(13,vI x9)] [] [] (qs (rq hC [] [44,45] [(45,vB (decide (x9<0)))] [] [] (aT h (fun c3 h=> ?_) (fun c3 h=> ?_))))
  ·obtain rfl:=so h
   exact rq hC [.z (.nat 22)] [6,7,8,46] [(6,ms 22 1 1 rI []),(7,vI 0),(8,vB false)] [(22,some (ar 3 1 1 rI []))] [(22,true)] (qw (lk hC [.ren 6 22 0] [6] [(6,ms 0 1 1 rI [])] [(0,some (ar 3 1 1 rI [])),(22,none)] [(0,true)]) (qr eW))
  ·obtain rfl:=so h
   exact qk (rq hC [] [6,7,8,47,48] [(6,ms 20 g4 1 rI x2),(7,vI x9),(8,vB true)] [] [] (qw (lk hC [.ren 6 20 0] [6] [(6,ms 0 1 1 rI x2)] [(0,some (ar 3 1 1 rI x2)),(20,none)] [(0,true)]) (qr eW)))
theorem w7{list}{part}{r}(h:oI n list part=some r):PQ G 118 [vM aI list,V.agg (lO part)] (V.tup [vI r.1,vB r.2]):=by
 unfold oI at h
 refine pq aN Tryz.func118 rfl fun w X hC=> ?_
 refine rq hC [.z (.b (true))] [3,4,5] [(3,V.tp (kF part))] [] [] ?_
 obtain⟨x1,hx1,h⟩:=bd h
 refine rq hC [oC [] [20] (T6 G hx1)] [6,7,13,14,15,16,17,18] [(6,ms 20 1 1 (rL rI) x1.1),(7,vB x1.2)] [(20,some (ar 33 1 1 (rL rI) x1.1))] [(20,true)] (qs (vj h (fun x_=>aW [(0,vM aI list),(3,V.tp (kF part)),(6,ms 20 1 1 (rL rI) x1.1),(32,vB x_)] [(20,ar 33 1 1 (rL rI) x1.1)] [20]) (fun j2 h=> ?_) (fun x3 h=> ?_)))
 ·
  refine aS h (fun c1 h=> ?_) (fun c1 h=> ?_)
  ·refine aS h (fun c2 h=> ?_) (fun c2 h=> ?_)
   ·exact rk hC (rF 3 c1++[oN aG part.body,oF c1,oF c1]++rF 3 c2++[oN aG part.body,oF c2,oF c2]) (fr 19 14) [(32,vB (decide ((4:Int)<(part.body.length:Int))))] [] [] (lE h)
   ·exact rk hC (rF 3 c1++[oN aG part.body,oF c1,oF c1]++rT 5 c2) (fr 19 14) [(32,vB true)] [] [] (lE h)
  ·exact rk hC (rT 5 c1++sT 5) (fr 19 14) [(32,vB true)] [] [] (lE h)
 ·refine aT h (fun c3 h=> ?_) (fun c3 h=> ?_)
  ·obtain rfl:=so h
   exact rq hC [] [4,5] [(4,vI 0),(5,vB false)] [] [] (qr eR)
  ·refine qk (qs (rq hC [] [8] [(8,vI 0)] [] [] (qb (jG h (fun x_=>aW [(0,vM aI list),(3,V.tp (kF part)),(6,ms 20 1 1 (rL rI) x1.1),(8,vI x_)] [(20,ar 33 1 1 (rL rI) x1.1)] [20]) lS ?_))))
   rintro again5 x4 h
   refine qs (rq hC [oN aG part.body] (fr 33 5) [(37,vB (decide (x4<(part.body.length:Int))))] [] [] (aT h (fun c4 h=> ?_) (fun c4 h=> ?_)))
   ·refine qk (qs (qb (qs (qs ?_))))
    obtain⟨x6,hx6,x7,hx7,h⟩:=cV h
    refine dk hC bD [oR aG hx6,oN aC part.nest,oV (qC G hx7)] (fr 40 10) [(49,vB (!x7))] [] [] (aT h (fun c5 h=> ?_) (fun c5 h=> ?_))
    ·obtain rfl:=so h
     exact rq hC [] [4,5] [(4,vI 0),(5,vB false)] [] [] (qr eR)
    ·refine qk (rq hC [] [9] [(9,vI 0)] [] [] (qb (jG h (fun x_=>aW [(0,vM aI list),(3,V.tp (kF part)),(6,ms 20 1 1 (rL rI) x1.1),(8,vI x4),(9,vI x_)] [(20,ar 33 1 1 (rL rI) x1.1)] [20]) lS ?_)))
     rintro again9 x8 h
     refine qs (rq hC [oN (rL rI) x1.1] (fr 50 4) [(53,vB (decide (x8<(x1.1.length:Int))))] [] [] (aT h (fun c6 h=> ?_) (fun c6 h=> ?_)))
     ·refine qk (qs (qb (qs ?_)))
      obtain⟨x10,hx10,x11,hx11,h⟩:=cV h
      refine dk hC bD [oR aG hx6,oQ (jO (rL rI) hx10),oX (rL rI) hx10,oC [] [21] (aCI G hx11)] [10,11,12,56,57,58,59,60,61,62,63,64,65,66,67,68,69,70] [(12,vB x11.2.2)] [(21,some (ar 3 1 1 rI x11.1))] [(21,true)] (vj h (fun x_=>aW [(0,vM aI list),(3,V.tp (kF part)),(6,ms 20 1 1 (rL rI) x1.1),(8,vI x4),(9,vI x8),(80,vB x_)] [(20,ar 33 1 1 (rL rI) x1.1),(21,ar 3 1 1 rI x11.1)] [20,21]) (fun j12 h=> ?_) (fun x14 h=> ?_))
      ·
       refine aS h (fun c7 h=> ?_) (fun c7 h=> ?_)
       ·obtain⟨x13,hx13,h⟩:=bd h
        exact rk hC (rF 3 c7++[oQ (jO (rL rI) hx10),oF c7,oX (rL rI) hx10,oF c7,oV (aCR G hx13),oF c7,oF c7]) (fr 71 10) [(80,vB (!x13))] [] [] (lE h)
       ·exact rk hC (rT 7 c7) (fr 71 10) [(80,vB true)] [] [] (lE h)
      ·refine aT h (fun c8 h=> ?_) (fun c8 h=> ?_)
       ·obtain rfl:=so h
        exact rq hC [] [4,5] [(4,vI 0),(5,vB false)] [] [] (qr eR)
       ·exact qk (rk hC [] [9,54,55] [(9,vI (wr (x8+1)))] [] [] (lE h))
     ·exact cK (rk hC [] [8,38,39] [(8,vI (wr (x4+1)))] [] [] (lE h))
   ·obtain rfl:=so h
    exact cK (rq hC [oN (rL rI) x1.1,oN aG part.body] [4,5,81,82,83,84,85,86] [(4,vI (wr ((x1.1.length:Int)*(part.body.length:Int)))),(5,vB true)] [] [] (qr eR))
theorem dA{p}{r}(h:dR n p=some r):PQ G 71 [V.agg (bJ p)] (vB r):=by
 unfold dR at h
 refine pq aN Tryz.func71 rfl fun w X hC=> ?_
 refine rq hC [.z (.b (true))] [1,2] [(1,V.tp (cF p))] [] [] (qs (vj h (fun x_=>aW [(1,V.tp (cF p)),(16,vB x_)] [] []) (fun j1 h=> ?_) (fun x3 h=> ?_)))
 ·
  obtain⟨x2,hx2,h⟩:=bd h
  refine aS h (fun c1 h=> ?_) (fun c1 h=> ?_)
  ·exact rk hC ([oV (y6 G hx2)]++rF 3 c1++[oN aD p.parts,oF c1,oF c1]) (fr 7 10) [(16,vB (decide ((4:Int)<(p.parts.length:Int))))] [] [] (lE h)
  ·exact rk hC ([oV (y6 G hx2)]++rT 5 c1) (fr 7 10) [(16,vB true)] [] [] (lE h)
 ·refine aT h (fun c2 h=> ?_) (fun c2 h=> ?_)
  ·obtain rfl:=so h
   exact rq hC [] [2] [(2,vB false)] [] [] (qr eR)
  ·refine qk (rq hC [] [3] [(3,vI 0)] [] [] (qs (rq hC [] [4] [(4,vI 0)] [] [] (qb (jG h (fun x_=>aW [(1,V.tp (cF p)),(3,vI x_.1),(4,vI x_.2)] [] []) lS ?_)))))
   rintro again6 ⟨x4,x5⟩ h
   refine qs (rq hC [oN aD p.parts] (fr 17 5) [(21,vB (decide (x5<(p.parts.length:Int))))] [] [] (aT h (fun c3 h=> ?_) (fun c3 h=> ?_)))
   ·refine qk (qs (qb (qs ?_)))
    obtain⟨x7,hx7,x8,hx8,h⟩:=cV h
    refine dk hC bD [oR aD hx7,oV (w7 G hx8)] [5,6,24,25,26,27,28,29,30,31,32,33,34] [(5,vI x8.1),(6,vB x8.2)] [] [] (qs (rq hC [] [35,36] [(36,vB (!x8.2))] [] [] (aT h (fun c4 h=> ?_) (fun c4 h=> ?_))))
    ·obtain rfl:=so h
     exact rq hC [] [2] [(2,vB false)] [] [] (qr eR)
    ·exact qk (rk hC [] [3,37,38,39] [(3,vI (wr (x4+x8.1)))] [] [] (rk hC [] [4,22,23] [(4,vI (wr (x5+1)))] [] [] (lE h)))
   ·obtain rfl:=so h
    exact cK (rq hC [] [2,40,41] [(2,vB (decide (x4≤120)))] [] [] (qr eR))
theorem aEA{nest}{r}(h:K7 n nest=some r):PQ G 208 [vM aC nest] (vS r):=by
 unfold K7 at h
 refine pq aN Tryz.func208 rfl fun w X hC=> ?_
 refine rq hC [] [2] [] [] [] (rq hC [] [3] [(3,vS [])] [] [] (qs (rq hC [] [4] [(4,vI 0)] [] [] (qb (jG h (fun x_=>aW [(0,vM aC nest),(3,vS x_.1),(4,vI x_.2)] [] []) lS ?_)))))
 rintro again3 ⟨x1,x2⟩ h
 refine qs (rq hC [oN aC nest] (fr 5 4) [(8,vB (decide (x2<(nest.length:Int))))] [] [] (aT h (fun c1 h=> ?_) (fun c1 h=> ?_)))
 ·refine qk (qs (qb ?_))
  obtain⟨x4,hx4,x5,hx5,x6,hx6,h⟩:=jI h
  obtain⟨x7,hx7,x8,hx8,x9,hx9,h⟩:=jI h
  obtain⟨x10,hx10,x11,hx11,h⟩:=cV h
  exact dk hC bD [oS hx4,oR aC hx5,oV (pE G hx6),oS hx7,oS hx8,oR aC hx5,oV (pE G hx9),oS hx10,oS hx11] [3,11,12,13,14,15,16,17,18,19,20,21,22,23,24,25,26,27,28] [(3,vS x11)] [] [] (rk hC [] [4,9,10] [(4,vI (wr (x2+1)))] [] [] (lE h))
 ·obtain rfl:=so h
  exact cK (rq hC [] [2,29] [(2,vS x1)] [] [] (qr eR))
theorem zA{p}{r}(h:m9 n p=some r):PQ G 156 [V.agg (bJ p)] (vS r):=by
 unfold m9 at h
 refine pq aN Tryz.func156 rfl fun w X hC=> ?_
 refine rq hC [.z (.b (true))] [1,2] [(1,V.tp (cF p))] [] [] (qs ?_)
 obtain⟨x1,hx1,h⟩:=bd h
 refine rq hC [oV (dA G hx1)] [9,10,11] [(11,vB (!x1))] [] [] (aT h (fun c1 h=> ?_) (fun c1 h=> ?_))
 ·obtain rfl:=so h
  exact rq hC [] [2] [(2,vS [])] [] [] (qr eR)
 ·refine qk (rq hC [] [3] [(3,vS [112,114,111,103,114,97,109,10])] [] [] (qs (rq hC [] [4] [(4,vI 0)] [] [] (qb (jG h (fun x_=>aW [(1,V.tp (cF p)),(3,vS x_.1),(4,vI x_.2)] [] []) lS ?_)))))
  rintro again4 ⟨x2,x3⟩ h
  refine qs (rq hC [oN aI p.arrays] (fr 12 5) [(16,vB (decide (x3<(p.arrays.length:Int))))] [] [] (aT h (fun c2 h=> ?_) (fun c2 h=> ?_)))
  ·refine qk (qs (qb ?_))
   obtain⟨x5,hx5,x6,hx6,x7,hx7,h⟩:=jI h
   refine rq hC [oS hx5,oR aI hx6,oS hx7] [3,19,20,21,22,23,24,25,26,27] [(3,vS x7)] [] [] (qs (rq hC [] [5] [(5,vI 0)] [] [] (qb (jG h (fun x_=>aW [(1,V.tp (cF p)),(3,vS x_.1),(4,vI x3),(5,vI x_.2)] [] []) lS ?_))))
   rintro again10 ⟨x8,x9⟩ h
   refine qs (rq hC [oR aI hx6,oN rI x6.dims] (fr 28 9) [(36,vB (decide (x9<(x6.dims.length:Int))))] [] [] (aT h (fun c3 h=> ?_) (fun c3 h=> ?_)))
   ·refine qk (qs (qb ?_))
    obtain⟨x11,hx11,x12,hx12,x13,hx13,h⟩:=jI h
    obtain⟨x14,hx14,h⟩:=bd h
    exact rk hC [oS hx11,oR aI hx6,oR rI hx12,oV (sO G n x12 hx13),oS hx14] [3,39,40,41,42,43,44,45,46,47,48,49,50,51] [(3,vS x14)] [] [] (rk hC [] [5,37,38] [(5,vI (wr (x9+1)))] [] [] (lE h))
   ·refine cK ?_
    obtain⟨x15,hx15,h⟩:=bd h
    exact rk hC [oS hx15] [3,52,53] [(3,vS x15)] [] [] (rk hC [] [4,17,18] [(4,vI (wr (x3+1)))] [] [] (lE h))
  ·refine cK (qs (rq hC [] [6] [(6,vI 0)] [] [] (qb (jG h (fun x_=>aW [(1,V.tp (cF p)),(3,vS x_.1),(6,vI x_.2)] [] []) lS ?_))))
   rintro again18 ⟨x16,x17⟩ h
   refine qs (rq hC [oN aD p.parts] (fr 54 5) [(58,vB (decide (x17<(p.parts.length:Int))))] [] [] (aT h (fun c4 h=> ?_) (fun c4 h=> ?_)))
   ·refine qk (qs (qb ?_))
    obtain⟨x19,hx19,x20,hx20,x21,hx21,h⟩:=jI h
    obtain⟨x22,hx22,h⟩:=bd h
    refine rq hC [oS hx19,oR aD hx20,oV (aEA G hx21),oS hx22] [3,61,62,63,64,65,66,67,68,69,70] [(3,vS x22)] [] [] (rq hC [] [7] [(7,vI 0)] [] [] (qb (jG h (fun x_=>aW [(1,V.tp (cF p)),(3,vS x_.1),(6,vI x17),(7,vI x_.2)] [] []) lS ?_)))
    rintro again25 ⟨x23,x24⟩ h
    refine qs (rq hC [oR aD hx20,oN aG x20.body] (fr 71 9) [(79,vB (decide (x24<(x20.body.length:Int))))] [] [] (aT h (fun c5 h=> ?_) (fun c5 h=> ?_)))
    ·refine qk (qs (qb ?_))
     obtain⟨x26,hx26,h⟩:=bd h
     refine rq hC [oR aD hx20,oR aG hx26,.z (.nat 20)] [8,82,83,84,85,86,87,88,89,90] [(8,V.ref 20 0)] [(20,some (E.cells (cR x26)))] [(20,true)] ?_
     obtain⟨x27,hx27,x28,hx28,x29,hx29,h⟩:=jI h
     obtain⟨x30,hx30,x31,hx31,x32,hx32,h⟩:=jI h
     exact dk hC bD [oV (mF G hx27),oS hx28,oS hx29,oV (S4 G n x26.value hx30),oS hx31,oS hx32] [3,91,92,93,94,95,96,97,98,99,100,101] [(3,vS x32)] [] [] (rk hC [] [7,80,81] [(7,vI (wr (x24+1)))] [] [] (lE h))
    ·exact cK (rk hC [] [6,59,60] [(6,vI (wr (x17+1)))] [] [] (lE h))
   ·obtain rfl:=so h
    exact cK (rq hC [] [2,102] [(2,vS x16)] [] [] (qr eR))
theorem C2{text}{r}(h:eK n text=some r):PQ G 113 [vS text] (V.tup [V.agg (bJ r.1),vB r.2]):=by
 unfold eK at h
 refine pq aN Tryz.func113 rfl fun w X hC=> ?_
 refine rq hC [.z (.nat 20)] [2,3] [(2,V.ref 20 0)] [(20,sc [V.t T.nilS,V.t T.nilS])] [(20,true)] ?_
 obtain⟨x1,hx1,h⟩:=bd h
 refine rq hC [oC [] [21] (xF G hx1)] [4,7,8] [(4,ms 21 1 1 rS x1)] [(21,some (ar 9 1 1 rS x1))] [(21,true)] (rq hC [.z (.nat 22)] [5,9] [(5,V.ref 22 0)] [(22,sc [V.t T.nilS,V.t T.nilS])] [(22,true)] (qs (rq hC [oN rS x1] [10,11,12] [(12,vB (decide ((42:Int)<(x1.length:Int))))] [] [] (aT h (fun c1 h=> ?_) (fun c1 h=> ?_)))))
 ·obtain rfl:=so h
  exact rq hC [] [3,13] [(3,vB false)] [(20,sc [V.t T.nilS,V.t T.nilS])] [] (qr eR)
 ·refine qk (qs (rq hC [] [6] [(6,vI 1)] [] [] (qb (qw (lk hC [.growc 22 0 23 77,.growc 22 1 24 62,.tre 24 t6 0] [] [] [(23,some (ar 77 1 2 aI [])),(24,some (E.tree t6 0 1 (List.map aD []) [])),(22,sc [ms 23 1 2 aI [],ms 24 1 2 aD []])] [(23,true),(24,true)]) (aZ (γ:=Nat×Nat) h (fun x_ g_=>aW [(0,vS text),(2,V.ref 20 0),(4,ms 21 1 1 rS x1),(5,V.ref 22 0),(6,vI x_.2.2)] [(20,E.cells [V.t T.nilS,V.t T.nilS]),(21,ar 9 1 1 rS x1),(22,E.cells [ms 23 g_.1 2 aI x_.1,ms 24 g_.2 2 aD x_.2.1]),(23,ar 77 g_.1 2 aI x_.1),(24,E.tree t6 0 g_.2 (List.map aD x_.2.1) [])] [20,21,22,23,24]) (1,1) (lS) ?_)))))
  rintro again5 ⟨x2,x3,x4⟩ ⟨g5,g6⟩ h
  refine qs (rq hC [oN rS x1] (fr 14 5) [(18,vB (decide (wr (x4+1)<(x1.length:Int))))] [] [] (aT h (fun c2 h=> ?_) (fun c2 h=> ?_)))
  ·refine qk (qs (qb ?_))
   obtain⟨x6,hx6,x7,hx7,h⟩:=cV h
   exact dk hC bD [oQ (jO rS hx6),oX rS hx6,oC [23,24] [] (aEv G n (⟨x2,x3⟩:Prog) x6 g5 g6 hx7)] (fr 21 6) [] [(23,some (ar 77 (g5+1) 2 aI x7.arrays)),(24,some (E.tree t6 0 (g6+1) (List.map aD x7.parts) [])),(22,sc [ms 23 (g5+1) 2 aI x7.arrays,ms 24 (g6+1) 2 aD x7.parts])] [(23,true),(24,true)] (rk hC [] [6,19,20] [(6,vI (wr (x4+1)))] [] [] ⟨(x7.arrays,x7.parts,wr (x4+1)),(g5+1,g6+1),h,lS⟩)
  ·refine cK (qs (vj h (fun x_=>aW [(2,V.ref 20 0),(5,V.ref 22 0),(34,vB x_)] [(20,E.cells [V.t T.nilS,V.t T.nilS]),(21,ar 9 1 1 rS x1),(22,E.cells [ms 23 g5 2 aI x2,ms 24 g6 2 aD x3]),(23,ar 77 g5 2 aI x2),(24,E.tree t6 0 g6 (List.map aD x3) [])] [20,21,22,23,24]) (fun j8 h=> ?_) (fun x10 h=> ?_)))
   ·
    refine aS h (fun c3 h=> ?_) (fun c3 h=> ?_)
    ·obtain⟨x9,hx9,h⟩:=bd h
     exact rk hC ([oF c3,oF c3,.z (.b true),.z (.nat 23),.z (.nat 24),oV (zA G hx9)]++rF 3 c3) (fr 27 8) [(34,vB (!decide (x9=text)))] [] [] (lE h)
    ·exact rk hC (rT 5 c3) (fr 27 8) [(34,vB true)] [] [] (lE h)
   ·refine aT h (fun c4 h=> ?_) (fun c4 h=> ?_)
    ·obtain rfl:=so h
     exact rq hC [] [3,35] [(3,vB false)] [(20,sc [V.t T.nilS,V.t T.nilS])] [] (qr eR)
    ·obtain rfl:=so h
     exact qk (qs (qw (lk hC [.fz 23 [] [22],.shd 24,.fz 24 [] [22]] [] [] [(22,sc [vM aI x2,vM aD x3]),(23,none),(24,none)] []) (rk hC [] [3,36] [(3,vB true)] [(20,sc [vM aI x2,vM aD x3])] [] (qr eR))))
theorem sK(G:GS)(n:Nat){r:(List Arr)}(h:qO n=some r):PQ G 173 [] (vM aI r):=by
 unfold qO at h
 refine pq aN Tryz.func173 rfl fun w X hC=> ?_
 obtain rfl:=so h
 exact rq hC [] [0] [] [] [] (rq hC [.z (.int 0),.z (.int 0),.z (.int 0),.z (.int 0)] (fr 0 8) [(0,vM aI [(⟨[65],[6]⟩:Arr),(⟨[66],[4,5]⟩:Arr),(⟨[67],[3]⟩:Arr)])] [] [] (qr eR))
theorem gX{a}{x}{b}{y}{r}(h:cA n a x b y=some r):VQ G 86 [] [V.agg (aK a),vI x,V.agg (aK b),vI y] (V.agg [ms 0 1 1 rI r.coefs,vI r.const]) [ar 3 1 1 rI r.coefs]:=by
 unfold cA at h
 refine vq aN Tryz.func86 rfl fun w X β0 hC hg=> ?_
 refine rq hC [.z (.b (true)),.z (.b (true)),.z (.nat 20)] [4,6,8] [(4,V.tp (aR a)),(6,V.tp (aR b)),(8,V.ref 20 0)] [(20,sc [V.t T.nilS,vI 0])] [(20,true)] (rq hC [.z (.nat 21)] [9,11,12,13,14,15,16,17,18,19,20] [(9,V.ref 21 0)] [(21,sc [V.t T.nilS,vI (wr ((wr (x*a.const))+(wr (y*b.const))))])] [(21,true)] (qs (rq hC [] [10] [(10,vI 0)] [] [] (qb (qw (lk hC [.growc 21 0 22 3] [] [] [(22,some (ar 3 1 1 rI [])),(21,sc [ms 22 1 1 rI [],vI (wr ((wr (x*a.const))+(wr (y*b.const))))])] [(22,true)]) ?_)))))
 refine aZ (γ:=Nat) h (fun x_ g_=>aW [(1,vI x),(3,vI y),(4,V.tp (aR a)),(6,V.tp (aR b)),(8,V.ref 20 0),(9,V.ref 21 0),(10,vI x_.2)] [(20,E.cells [V.t T.nilS,vI 0]),(21,E.cells [ms 22 g_ 1 rI x_.1,vI (wr ((wr (x*a.const))+(wr (y*b.const))))]),(22,ar 3 g_ 1 rI x_.1)] [20,21,22]) 1 (lS) ?_
 rintro again4 ⟨x1,x2⟩ g3 h
 refine qs (rq hC [] [21,22] [(22,vB (decide (x2<4)))] [] [] (aT h (fun c1 h=> ?_) (fun c1 h=> ?_)))
 ·refine qk (qs (qb ?_))
  obtain⟨x5,hx5,x6,hx6,x7,hx7,h⟩:=jI h
  exact dk hC bD [oR rI hx5,oR rI hx6,.z (.int 0),oA (aO rI hx7),oQ (bP (r:=rI) 1 (fun _=>rfl) x1),oQ (bP (r:=rI) 1 (fun _=>rfl) [wr ((wr (x*x5))+(wr (y*x6)))])] (fr 25 20) [] [(22,some (ar 3 (g3+1) 1 rI x7)),(21,sc [ms 22 (g3+1) 1 rI x7,vI (wr ((wr (x*a.const))+(wr (y*b.const))))])] [] (rk hC [] [10,23,24] [(10,vI (wr (x2+1)))] [] [] ⟨(x7,wr (x2+1)),(g3+1),h,lS⟩)
 ·obtain rfl:=so h
  exact cK (rq hC [] [45] [] [(20,sc [ms 22 g3 1 rI x1,vI (wr ((wr (x*a.const))+(wr (y*b.const))))])] [] (qw (lk hC [.rn 22 0 [] [20,21]] [] [] [(20,sc [ms 0 1 1 rI x1,vI (wr ((wr (x*a.const))+(wr (y*b.const))))]),(21,sc [ms 0 1 1 rI x1,vI (wr ((wr (x*a.const))+(wr (y*b.const))))]),(22,none),(0,some (ar 3 1 1 rI x1))] [(0,true)]) (qr eW)))
theorem aEC{r_a0}{depth}{r}(h:tW n r_a0 depth=some r):VQ G 263 [eL r_a0] [V.ref 0 0,vI depth] (V.agg (kN r.1)) [eL r.2]:=by
 unfold tW at h
 refine vq aN Tryz.func263 rfl fun w X β0 hC hg=> ?_
 refine rq hC [.z (.nat 20)] [4] [(4,V.ref 20 0)] [(20,sc [V.t T.nilS,V.t T.nilS])] [(20,true)] ?_
 obtain⟨x1,hx1,x2,hx2,h⟩:=cV h
 refine rq hC [.z (.int 0),oC [0] [] (bC G hx1),oC [] [21] (cZ G hx2),.z (.nat 22)] [5,9,10,11,12] [(5,V.ref 22 0)] [(0,sR x1.2),(21,some (ar 3 1 1 rI x2.coefs)),(22,sc [ms 21 1 1 rI x2.coefs,vI x2.const])] [(0,true),(21,true),(22,true)] ?_
 obtain⟨x3,hx3,x4,hx4,h⟩:=cV h
 refine rq hC [.z (.int 0),oC [0] [] (bC G hx3),oC [] [23] (cZ G hx4),.z (.nat 24)] [6,13,14,15,16] [(6,V.ref 24 0)] [(0,sR x3.2),(23,some (ar 3 1 1 rI x4.coefs)),(24,sc [ms 23 1 1 rI x4.coefs,vI x4.const])] [(0,true),(23,true),(24,true)] (vj h (fun x_=>aW [(0,V.ref 0 0),(4,V.ref 20 0),(5,V.ref 22 0),(6,V.ref 24 0)] [(0,E.cells [vM rY x_.1,vI x_.2.1]),(20,E.cells [V.t T.nilS,V.t T.nilS]),(22,E.cells [vM rI x_.2.2.1,vI x_.2.2.2.1]),(24,E.cells [vM rI x_.2.2.2.2.1,vI x_.2.2.2.2.2])] [0,20,21,22,23,24]) (fun j5 h=> ?_) ?_)
 ·
  refine vj h (fun x_=>aW [(0,V.ref 0 0),(1,vI depth),(4,V.ref 20 0),(5,V.ref 22 0),(6,V.ref 24 0),(23,vB x_.2.2)] [(0,E.cells [vM rY x_.1,vI x_.2.1]),(20,E.cells [V.t T.nilS,V.t T.nilS]),(21,ar 3 1 1 rI x2.coefs),(22,E.cells [ms 21 1 1 rI x2.coefs,vI x2.const]),(23,ar 3 1 1 rI x4.coefs),(24,E.cells [ms 23 1 1 rI x4.coefs,vI x4.const])] [0,20,21,22,23,24]) (fun j6 h=> ?_) ?_
  ·
   refine aS h (fun c1 h=> ?_) (fun c1 h=> ?_)
   ·exact rk hC (rF 4 c1) (fr 17 7) [(23,vB false)] [] [] (lE h)
   ·obtain⟨x7,hx7,h⟩:=bd h
    exact rk hC [oT c1,oT c1,oC [0] [] (bO G hx7),oT c1,oT c1] (fr 17 7) [(23,vB (decide (x7.1=0)))] [(0,sR x7.2)] [(0,true)] (lE h)
  ·rintro⟨x8,x9,x10⟩ h
   refine aT h (fun c2 h=> ?_) (fun c2 h=> ?_)
   ·obtain⟨x11,hx11,h⟩:=bd h
    refine rq hC [oC [0] [] (bO G hx11)] [7,24,25,26] [(7,vI x11.1)] [(0,sR x11.2)] [(0,true)] ?_
    obtain⟨x12,hx12,h⟩:=bd h
    refine rq hC [oC [0] [] (bO G hx12)] [27,28,29] [(29,vB (decide (x12.1=0)))] [(0,sR x12.2)] [(0,true)] (aT h (fun c3 h=> ?_) (fun c3 h=> ?_))
    ·obtain⟨x13,hx13,h⟩:=bd h
     exact rk hC [oC [] [25] (oD G hx13)] [30,31] [] [(25,some (ar 3 1 1 rI x13.coefs)),(22,sc [ms 25 1 1 rI x13.coefs,vI x13.const])] [(25,true)] ⟨(x12.2.b,x12.2.p,x13.coefs,x13.const,x4.coefs,x4.const),h,((lk hC [.fz 23 [] [24],.fz 25 [] [22]] [] [] [(24,some (E.cells (aK x4))),(23,none),(22,some (E.cells (aK x13))),(25,none)] []).trans (lS))⟩
    ·obtain⟨x14,hx14,x15,hx15,x16,hx16,h⟩:=jI h
     exact rk hC [oC [] [25] (oD G hx14),oC [] [26] (cZ G hx15),.z (.at 2),.z (.fz 25 [33] []),.z (.at 2),.z (.fz 26 [34] []),oC [] [27] (gX G hx16)] (fr 32 4) [] [(25,none),(26,none),(27,some (ar 3 1 1 rI x16.coefs)),(24,sc [ms 27 1 1 rI x16.coefs,vI x16.const])] [(25,true),(26,true),(27,true)] ⟨(x12.2.b,x12.2.p,x2.coefs,x2.const,x16.coefs,x16.const),h,((lk hC [.fz 21 [] [22],.fz 27 [] [24]] [] [] [(22,some (E.cells (aK x2))),(21,none),(24,some (E.cells (aK x16))),(27,none)] []).trans (lS))⟩
   ·exact qk ⟨(x8,x9,x2.coefs,x2.const,x4.coefs,x4.const),h,((lk hC [.fz 21 [] [22],.fz 23 [] [24]] [] [] [(22,some (E.cells (aK x2))),(21,none),(24,some (E.cells (aK x4))),(23,none)] []).trans (lS))⟩
 ·rintro⟨x17,x18,x19,x20,x21,x22⟩ h
  refine rq hC [.z (.int 1),.z (.nat 25),.z (.int 1),.z (.nat 26),.z (.nat 27)] [8,36,37,38,39,40] [(8,V.ref 27 0)] [(25,some (ar 65 1 2 aA [(⟨x19,x20⟩:Affine)])),(26,some (ar 65 1 2 aA [(⟨x21,x22⟩:Affine)])),(27,sc [ms 25 1 2 aA [(⟨x19,x20⟩:Affine)],ms 26 1 2 aA [(⟨x21,x22⟩:Affine)]])] [(25,true),(26,true),(27,true)] ?_
  obtain⟨j23,hj23,h⟩:=A8 h
  refine kQ (γ:=Nat×Nat) (j:=j23) (r:=r) (fun x_ g_=>aW [(4,V.ref 20 0),(8,V.ref 27 0)] [(0,E.cells [vM rY x_.1,vI x_.2.1]),(20,E.cells [V.t T.nilS,V.t T.nilS]),(22,E.cells [vM rI x19,vI x20]),(24,E.cells [vM rI x21,vI x22]),(25,ar 65 g_.1 2 aA x_.2.2.1),(26,ar 65 g_.2 2 aA x_.2.2.2),(27,E.cells [ms 25 g_.1 2 aA x_.2.2.1,ms 26 g_.2 2 aA x_.2.2.2])] [0,20,21,22,23,24,25,26,27]) ?_ ?_
  ·
   obtain⟨x24,hx24,h⟩:=bd h
   refine rq hC [oC [0] [] (bO G hx24)] [41,42] [(42,vI x24.1)] [(0,sR x24.2)] [(0,true)] (qb (rq hC [] [43,44] [(43,vB (decide (x24.1=0)))] [] [] (aT h (fun c4 h=> ?_) (fun c4 h=> ?_))))
   ·obtain⟨x25,hx25,x26,hx26,x27,hx27,h⟩:=jI h
    exact dk hC bD [.z (.int 0),oC [0] [] (bC G hx25),oC [] [28] (cZ G hx26),.z (.at 4),.z (.fz 28 [50] []),.z (.int 0),oA (aO aA hx27),oQ (bP (r:=aA) 2 aU [(⟨x21,x22⟩:Affine)]),oQ (bP (r:=aA) 2 aU [x26])] (fr 45 9) [] [(0,sR x25.2),(28,none),(26,some (ar 65 2 2 aA x27)),(27,sc [ms 25 1 2 aA [(⟨x19,x20⟩:Affine)],ms 26 2 2 aA x27])] [(0,true),(28,true)] ⟨(x25.2.b,x25.2.p,[(⟨x19,x20⟩:Affine)],x27),(1,2),h,lS⟩
   ·refine rq hC [] [54,55] [(54,vB (decide (x24.1=1)))] [] [] (aT h (fun c5 h=> ?_) (fun c5 h=> ?_))
    ·obtain⟨x28,hx28,x29,hx29,x30,hx30,h⟩:=jI h
     exact dk hC bD [.z (.int 0),oC [0] [] (bC G hx28),oC [] [28] (cZ G hx29),.z (.at 4),.z (.fz 28 [61] []),.z (.int 0),oA (aO aA hx30),oQ (bP (r:=aA) 2 aU [(⟨x19,x20⟩:Affine)]),oQ (bP (r:=aA) 2 aU [x29])] (fr 56 9) [] [(0,sR x28.2),(28,none),(25,some (ar 65 2 2 aA x30)),(27,sc [ms 25 2 2 aA x30,ms 26 1 2 aA [(⟨x21,x22⟩:Affine)]])] [(0,true),(28,true)] ⟨(x28.2.b,x28.2.p,x30,[(⟨x21,x22⟩:Affine)]),(2,1),h,lS⟩
    ·exact qk ⟨(x24.2.b,x24.2.p,[(⟨x19,x20⟩:Affine)],[(⟨x21,x22⟩:Affine)]),(1,1),h,lS⟩
  ·rintro⟨x31,x32,x33,x34⟩ ⟨g35,g36⟩ h
   subst hj23
   obtain rfl:=so h
   exact rq hC [.z (.at 2),.z (.fz 25 [] [27]),.z (.at 2),.z (.fz 26 [] [27])] [65] [] [(27,sc [vM aA x33,vM aA x34]),(25,none),(26,none),(20,sc [vM aA x33,vM aA x34])] [] (qr eW)
theorem aEB{r_a0}{r}(h:tV n r_a0=some r):VQ G 228 [eL r_a0] [V.ref 0 0] (ms 1 1 2 aC r.1) [eL r.2,ar 58 1 2 aC r.1]:=by
 unfold tV at h
 refine vq aN Tryz.func228 rfl fun w X β0 hC hg=> ?_
 refine rq hC [] [2] [] [] [] (rq hC [.z (.nat 20)] [3,5] [(3,ms 20 1 2 aC [])] [(20,some (ar 58 1 2 aC []))] [(20,true)] (qs ?_))
 obtain⟨x1,hx1,h⟩:=bd h
 refine rq hC [.z (.int 0),oC [0] [] (bC G hx1)] [4,6,7,8] [(4,vI x1.1)] [(0,sR x1.2)] [(0,true)] (qb (aZ (γ:=Nat) h (fun x_ g_=>aW [(0,V.ref 0 0),(3,ms 20 g_ 2 aC x_.2.2.1),(4,vI x_.2.2.2)] [(0,E.cells [vM rY x_.1,vI x_.2.1]),(20,ar 58 g_ 2 aC x_.2.2.1)] [0,20]) 1 (lS) ?_))
 rintro again7 ⟨x2,x3,x4,x5⟩ g6 h
 refine qs (rq hC [] [9,10] [(10,vB (decide ((0:Int)<x5)))] [] [] (aT h (fun c1 h=> ?_) (fun c1 h=> ?_)))
 ·refine qk (qs (qb ?_))
  obtain⟨x8,hx8,x9,hx9,h⟩:=cV h
  exact rk hC [oN aC x4,oC [0] [] (aEC G hx8),.z (.int 0),oA (aO aC hx9),oQ (bP (r:=aC) 2 b9 x4),oQ (bP (r:=aC) 2 b9 [x8.1])] [3,13,14,15,16,17,18,19] [(3,ms 20 (g6+1) 2 aC x9)] [(0,sR x8.2),(20,some (ar 58 (g6+1) 2 aC x9))] [(0,true)] (rk hC [] [4,11,12] [(4,vI (wr (x5-1)))] [] [] ⟨(x8.2.b,x8.2.p,x9,wr (x5-1)),(g6+1),h,lS⟩)
 ·obtain rfl:=so h
  exact cK (rq hC [] [2,20] [(2,ms 20 g6 2 aC x4)] [] [] (qw (lk hC [.ren 2 20 1] [2] [(2,ms 1 1 2 aC x4)] [(1,some (ar 58 1 2 aC x4)),(20,none)] [(1,true)]) (qr eW)))
theorem S6{r_a0}{depth}{r}(h:oO n r_a0 depth=some r):VQ G 264 [eL r_a0] [V.ref 0 0,vI depth] (V.agg (cD r.1)) [eL r.2]:=by
 unfold oO at h
 refine vq aN Tryz.func264 rfl fun w X β0 hC hg=> ?_
 refine rq hC [.z (.nat 20)] [4] [(4,V.ref 20 0)] [(20,sc [vS [],V.t T.nilS])] [(20,true)] ?_
 obtain⟨x1,hx1,h⟩:=bd h
 refine rq hC [.z (.int 0),oC [0] [] (nT G hx1),.z (.nat 21)] [5,10,11,12,13] [(5,V.ref 21 0)] [(0,sR x1.2),(21,sc [vS x1.1,V.t T.nilS])] [(0,true),(21,true)] (rq hC [] [6] [(6,vI 1)] [] [] (vj h (fun x_=>aW [(0,V.ref 0 0),(1,vI depth),(4,V.ref 20 0),(5,V.ref 21 0),(6,vI x_)] [(0,eL x1.2),(20,E.cells [vS [],V.t T.nilS]),(21,E.cells [vS x1.1,V.t T.nilS])] [0,20,21]) (fun j2 h=> ?_) (fun x3 h=> ?_)))
 ·
  refine rq hC [] [14,15,16] [(16,vB (decide (x1.1=[66])))] [] [] (aT h (fun c1 h=> ?_) (fun c1 h=> ?_))
  ·exact rk hC [] [6] [(6,vI 2)] [] [] (lE h)
  ·exact qk (lE h)
 ·refine qs (rq hC [] [7] [(7,vI 0)] [] [] (qb (qw (lk hC [.growc 21 1 22 65] [] [] [(22,some (ar 65 1 2 aA [])),(21,sc [vS x1.1,ms 22 1 2 aA []])] [(22,true)]) (aZ (γ:=Nat) h (fun x_ g_=>aW [(0,V.ref 0 0),(1,vI depth),(4,V.ref 20 0),(5,V.ref 21 0),(6,vI x3),(7,vI x_.2.2.2)] [(0,E.cells [vM rY x_.1,vI x_.2.1]),(20,E.cells [vS [],V.t T.nilS]),(21,E.cells [vS x1.1,ms 22 g_ 2 aA x_.2.2.1]),(22,ar 65 g_ 2 aA x_.2.2.1)] [0,20,21,22]) 1 (lS) ?_))))
  rintro again9 ⟨x4,x5,x6,x7⟩ g8 h
  refine qs (rq hC [] [17,18,19] [(19,vB (decide (x7<x3)))] [] [] (aT h (fun c2 h=> ?_) (fun c2 h=> ?_)))
  ·refine qk (qs (qb ?_))
   obtain⟨x10,hx10,x11,hx11,h⟩:=cV h
   refine rq hC [.z (.int 0),oC [0] [] (bC G hx10),oC [] [23] (cZ G hx11),.z (.nat 24)] [8,22,23,24,25] [(8,V.ref 24 0)] [(0,sR x10.2),(23,some (ar 3 1 1 rI x11.coefs)),(24,sc [ms 23 1 1 rI x11.coefs,vI x11.const])] [(0,true),(23,true),(24,true)] (vj h (fun x_=>aW [(0,V.ref 0 0),(1,vI depth),(4,V.ref 20 0),(5,V.ref 21 0),(6,vI x3),(7,vI x7),(8,V.ref 24 0)] [(0,E.cells [vM rY x_.1,vI x_.2.1]),(20,E.cells [vS [],V.t T.nilS]),(21,E.cells [vS x1.1,ms 22 g8 2 aA x6]),(22,ar 65 g8 2 aA x6),(24,E.cells [vM rI x_.2.2.1,vI x_.2.2.2])] [0,20,21,22,23,24]) (fun j12 h=> ?_) ?_)
   ·
    refine vj h (fun x_=>aW [(0,V.ref 0 0),(1,vI depth),(4,V.ref 20 0),(5,V.ref 21 0),(6,vI x3),(7,vI x7),(8,V.ref 24 0),(32,vB x_.2.2)] [(0,E.cells [vM rY x_.1,vI x_.2.1]),(20,E.cells [vS [],V.t T.nilS]),(21,E.cells [vS x1.1,ms 22 g8 2 aA x6]),(22,ar 65 g8 2 aA x6),(23,ar 3 1 1 rI x11.coefs),(24,E.cells [ms 23 1 1 rI x11.coefs,vI x11.const])] [0,20,21,22,23,24]) (fun j13 h=> ?_) ?_
    ·
     refine aS h (fun c3 h=> ?_) (fun c3 h=> ?_)
     ·exact rk hC (rF 4 c3) (fr 26 7) [(32,vB false)] [] [] (lE h)
     ·obtain⟨x14,hx14,h⟩:=bd h
      exact rk hC [oT c3,oT c3,oC [0] [] (bO G hx14),oT c3,oT c3] (fr 26 7) [(32,vB (decide ((0:Int)<x14.1)))] [(0,sR x14.2)] [(0,true)] (lE h)
    ·rintro⟨x15,x16,x17⟩ h
     refine aT h (fun c4 h=> ?_) (fun c4 h=> ?_)
     ·obtain⟨x18,hx18,h⟩:=bd h
      refine rq hC [oC [0] [] (bO G hx18)] [9,33,34,35] [(9,vI x18.1)] [(0,sR x18.2)] [(0,true)] ?_
      obtain⟨x19,hx19,x20,hx20,x21,hx21,h⟩:=jI h
      obtain⟨x22,hx22,x23,hx23,h⟩:=cV h
      exact rk hC [oC [] [25] (oD G hx19),.z (.int 0),oC [0] [] (bC G hx20),.z (.int 0),oC [0] [] (bC G hx21),oC [] [26] (cZ G hx22),.z (.at 2),.z (.fz 25 [37] []),.z (.at 2),.z (.fz 26 [44] []),oC [] [27] (gX G hx23)] (fr 36 10) [] [(25,none),(0,sR x21.2),(26,none),(27,some (ar 3 1 1 rI x23.coefs)),(24,sc [ms 27 1 1 rI x23.coefs,vI x23.const])] [(25,true),(0,true),(0,true),(26,true),(27,true)] ⟨(x21.2.b,x21.2.p,x23.coefs,x23.const),h,((lk hC [.fz 27 [] [24]] [] [] [(24,some (E.cells (aK x23))),(27,none)] []).trans (lS))⟩
     ·exact qk ⟨(x15,x16,x11.coefs,x11.const),h,((lk hC [.fz 23 [] [24]] [] [] [(24,some (E.cells (aK x11))),(23,none)] []).trans (lS))⟩
   ·rintro⟨x24,x25,x26,x27⟩ h
    obtain⟨x28,hx28,h⟩:=bd h
    exact rk hC [.z (.int 0),oA (aO aA hx28),oQ (bP (r:=aA) 2 aU x6),oQ (bP (r:=aA) 2 aU [(⟨x26,x27⟩:Affine)])] (fr 46 6) [] [(22,some (ar 65 (g8+1) 2 aA x28)),(21,sc [vS x1.1,ms 22 (g8+1) 2 aA x28])] [] (rk hC [] [7,20,21] [(7,vI (wr (x7+1)))] [] [] ⟨(x24,x25,x28,wr (x7+1)),(g8+1),h,lS⟩)
  ·obtain rfl:=so h
   exact cK (rq hC [.z (.at 2),.z (.fz 22 [] [21])] [52] [] [(21,sc [vS x1.1,vM aA x6]),(22,none),(20,sc [vS x1.1,vM aA x6])] [] (qr eW))
theorem aEF{r_a0}{depth}{r}(h:qU n r_a0 depth=some r):VQ G 280 [eL r_a0] [V.ref 0 0,vI depth] (V.agg (aK r.1)) [eL r.2]:=by
 unfold qU at h
 refine vq aN Tryz.func280 rfl fun w X β0 hC hg=> ?_
 refine rq hC [.z (.nat 20)] [4] [(4,V.ref 20 0)] [(20,sc [V.t T.nilS,vI 0])] [(20,true)] ?_
 obtain⟨x1,hx1,x2,hx2,h⟩:=cV h
 refine rq hC [.z (.int 0),oC [0] [] (bC G hx1),oC [] [21] (cZ G hx2),.z (.nat 22)] [5,7,8,9,10] [(5,V.ref 22 0)] [(0,sR x1.2),(21,some (ar 3 1 1 rI x2.coefs)),(22,sc [ms 21 1 1 rI x2.coefs,vI x2.const])] [(0,true),(21,true),(22,true)] (qs (rq hC [] [6] [(6,vI 0)] [] [] (qb (aZ (γ:=Nat) h (fun x_ g_=>aW [(0,V.ref 0 0),(1,vI depth),(4,V.ref 20 0),(5,V.ref 22 0),(6,vI x_.2.2.2)] [(0,E.cells [vM rY x_.1,vI x_.2.1]),(20,E.cells [V.t T.nilS,vI 0]),(21,ar 3 g_ 1 rI x_.2.2.1),(22,E.cells [ms 21 g_ 1 rI x_.2.2.1,vI x2.const])] [0,20,21,22]) 1 (lS) ?_))))
 rintro again8 ⟨x3,x4,x5,x6⟩ g7 h
 refine qs (rq hC [] [11,12,13] [(13,vB (decide (x6<depth)))] [] [] (aT h (fun c1 h=> ?_) (fun c1 h=> ?_)))
 ·refine qk (qs (qb ?_))
  obtain⟨x9,hx9,x10,hx10,x11,hx11,h⟩:=jI h
  exact dk hC bD [.z (.int 0),oC [0] [] (bC G hx9),oQ (jO rI hx10),oX rI hx10,.z (.rows (List.map rI x11)),oQ (str rI hx11)] (fr 16 7) [] [(0,sR x9.2),(21,some (ar 3 g7 1 rI x11))] [(0,true)] (qw (A3 hC [.lenc 22 0 (List.map rI x11).length] [] [] [(22,sc [ms 21 g7 1 rI x11,vI x2.const])] [] (a1 (gY rI hx11)) (by kernel_rfl)) (rk hC [] [6,14,15] [(6,vI (wr (x6+1)))] [] [] ⟨(x9.2.b,x9.2.p,x11,wr (x6+1)),g7,h,lS⟩))
 ·obtain rfl:=so h
  exact cK (rq hC [.z (.at 2),.z (.fz 21 [] [22])] [23] [] [(22,sc [vM rI x5,vI x2.const]),(21,none),(20,sc [vM rI x5,vI x2.const])] [] (qr eW))
theorem aCK(G:GS): ∀(n:Nat) (r_a0:L16Rd) (depth:Int) (levels:Int) {r:Expr×L16Rd} (h:s_l3Value n r_a0 depth levels=some r),VQ G 265 [eL r_a0] [V.ref 0 0,vI depth,vI levels] (V.agg (dB r.1)) [eL r.2]:=by
 intro n
 induction n with
 |zero=>intro r_a0 depth levels r h;rw [s_l3Value.eq_def] at h;cases h
 |succ n ih=>
  intro r_a0 depth levels r h
  rw [s_l3Value.eq_def] at h;dsimp only at h
  refine vq aN Tryz.func265 rfl fun w X β0 hC hg=> ?_
  refine rq hC [.z (.nat 20)] [6] [(6,V.ref 20 0)] [(20,sc [vI 0,vI 0,V.t T.nilS,vI 0,vS [],V.t T.nilS,V.t T.nilS])] [(20,true)] (qs (vj h (fun x_=>aW [(0,V.ref 0 0),(1,vI depth),(2,vI levels),(6,V.ref 20 0),(15,vB x_.2.2)] [(0,E.cells [vM rY x_.1,vI x_.2.1]),(20,E.cells [vI 0,vI 0,V.t T.nilS,vI 0,vS [],V.t T.nilS,V.t T.nilS])] [0,20]) (fun j1 h=> ?_) ?_))
  ·
   refine aS h (fun c1 h=> ?_) (fun c1 h=> ?_)
   ·obtain⟨x2,hx2,h⟩:=bd h
    exact rk hC [oF c1,oF c1,oC [0] [] (bO G hx2),oF c1,oF c1] (fr 9 7) [(15,vB (decide (x2.1=0)))] [(0,sR x2.2)] [(0,true)] (lE h)
   ·exact rk hC (rT 4 c1) (fr 9 7) [(15,vB true)] [] [] (lE h)
  ·rintro⟨x3,x4,x5⟩ h
   refine aT h (fun c2 h=> ?_) (fun c2 h=> ?_)
   ·refine qs ?_
    obtain⟨x6,hx6,h⟩:=bd h
    refine rq hC [oC [0] [] (bO G hx6)] [16,17] [(17,vI x6.1)] [(0,sR x6.2)] [(0,true)] (qb (rq hC [] [18,19] [(18,vB (decide (x6.1=0)))] [] [] (aT h (fun c3 h=> ?_) (fun c3 h=> ?_))))
    ·obtain⟨x7,hx7,h⟩:=bd h
     obtain rfl:=so h
     exact rq hC [.z (.int 0),oC [0] [] (bC G hx7)] (fr 20 4) [] [(0,sR x7.2),(20,sc [vI 1,vI x7.1,V.t T.nilS,vI 0,vS [],V.t T.nilS,V.t T.nilS])] [(0,true)] (qr eW)
    ·refine rq hC [] [24,25] [(24,vB (decide (x6.1=1)))] [] [] (aT h (fun c4 h=> ?_) (fun c4 h=> ?_))
     ·obtain⟨x8,hx8,h⟩:=bd h
      obtain rfl:=so h
      exact rq hC [oC [0] [] (aEF G hx8)] (fr 26 4) [] [(0,sR x8.2),(20,sc [vI 2,vI 0,vM rI x8.1.coefs,vI x8.1.const,vS [],V.t T.nilS,V.t T.nilS])] [(0,true)] (qr eW)
     ·refine qk ?_
      obtain⟨x9,hx9,h⟩:=bd h
      obtain rfl:=so h
      exact rq hC [oC [0] [] (S6 G hx9)] (fr 30 4) [] [(0,sR x9.2),(20,sc [vI 3,vI 0,V.t T.nilS,vI 0,vS x9.1.array,vM aA x9.1.subs,V.t T.nilS])] [(0,true)] (qr eW)
   ·refine qk ?_
    obtain⟨x10,hx10,h⟩:=bd h
    refine rq hC [.z (.int 0),oC [0] [] (bC G hx10),.z (.nat 21)] [7,34,35,36,37] [(7,V.ref 21 0)] [(0,sR x10.2),(21,sc [vI x10.1,vI 0,V.t T.nilS,vI 0,vS [],V.t T.nilS,V.t T.nilS])] [(0,true),(21,true)] (qs (rq hC [] [8] [(8,vI 0)] [] [] (qb (qw (lk hC [.growc 21 6 22 85] [] [] [(22,some (ar 85 1 7 aJ [])),(21,sc [vI x10.1,vI 0,V.t T.nilS,vI 0,vS [],V.t T.nilS,ms 22 1 7 aJ []])] [(22,true)]) (aZ (γ:=Nat) h (fun x_ g_=>aW [(0,V.ref 0 0),(1,vI depth),(2,vI levels),(6,V.ref 20 0),(7,V.ref 21 0),(8,vI x_.2.2.2)] [(0,E.cells [vM rY x_.1,vI x_.2.1]),(20,E.cells [vI 0,vI 0,V.t T.nilS,vI 0,vS [],V.t T.nilS,V.t T.nilS]),(21,E.cells [vI x10.1,vI 0,V.t T.nilS,vI 0,vS [],V.t T.nilS,ms 22 g_ 7 aJ x_.2.2.1]),(22,ar 85 g_ 7 aJ x_.2.2.1)] [0,20,21,22]) 1 (lS) ?_)))))
    rintro again16 ⟨x11,x12,x13,x14⟩ g15 h
    refine qs (rq hC [] [38,39] [(39,vB (decide (x14<2)))] [] [] (aT h (fun c5 h=> ?_) (fun c5 h=> ?_)))
    ·refine qk (qs (qb ?_))
     obtain⟨x17,hx17,x18,hx18,h⟩:=cV h
     exact dk hC bD [oC [0] [] (ih (⟨x11,x12⟩:L16Rd) depth (wr (levels-1)) hx17),.z (.int 2),.z (.rows (List.map aJ [x17.1])),oQ (sJ x17.1),oA (aO aJ hx18),oQ (bP (r:=aJ) 7 dW x13),oQ (bP (r:=aJ) 7 dW [x17.1])] (fr 42 10) [] [(0,sR x17.2),(22,some (ar 85 (g15+1) 7 aJ x18)),(21,sc [vI x10.1,vI 0,V.t T.nilS,vI 0,vS [],V.t T.nilS,ms 22 (g15+1) 7 aJ x18])] [(0,true)] (rk hC [] [8,40,41] [(8,vI (wr (x14+1)))] [] [] ⟨(x17.2.b,x17.2.p,x18,wr (x14+1)),(g15+1),h,lS⟩)
    ·obtain rfl:=so h
     exact cK (rq hC [.z (.at 2),.z (.fz 22 [] [21])] [52] [] [(21,sc [vI x10.1,vI 0,V.t T.nilS,vI 0,vS [],V.t T.nilS,vM aJ x13]),(22,none),(20,sc [vI x10.1,vI 0,V.t T.nilS,vI 0,vS [],V.t T.nilS,vM aJ x13])] [] (qr eW))
theorem aEy{r_a0}{depth}{r}(h:tT n r_a0 depth=some r):VQ G 229 [eL r_a0] [V.ref 0 0,vI depth] (V.agg (cR r.1)) [eL r.2]:=by
 unfold tT at h
 refine vq aN Tryz.func229 rfl fun w X β0 hC hg=> ?_
 refine rq hC [.z (.nat 20)] [4] [(4,V.ref 20 0)] [(20,sc [vS [],V.t T.nilS,vI 0,vI 0,V.t T.nilS,vI 0,vS [],V.t T.nilS,V.t T.nilS])] [(20,true)] ?_
 obtain⟨x1,hx1,x2,hx2,x3,hx3,h⟩:=jI h
 refine rq hC [oC [0] [] (S6 G hx1),.z (.int 0),oC [0] [] (bC G hx2),oC [0] [] (aCK G n x2.2 depth x2.1 hx3),.z (.nat 21)] (fr 5 11) [(5,V.ref 21 0)] [(0,sR x3.2),(21,sc [vS x1.1.array,vM aA x1.1.subs,vI x3.1.kind,vI x3.1.num,vM rI x3.1.index.coefs,vI x3.1.index.const,vS x3.1.read.array,vM aA x3.1.read.subs,vM aJ x3.1.kids])] [(0,true),(0,true),(0,true),(21,true)] (qs ?_)
 obtain⟨x4,hx4,h⟩:=bd h
 refine rq hC [oV (qC G hx4)] [16,17,18] [(18,vB x4)] [] [] (aT h (fun c1 h=> ?_) (fun c1 h=> ?_))
 ·obtain rfl:=so h
  exact rq hC [] [19] [] [(20,sc [vS x1.1.array,vM aA x1.1.subs,vI x3.1.kind,vI x3.1.num,vM rI x3.1.index.coefs,vI x3.1.index.const,vS x3.1.read.array,vM aA x3.1.read.subs,vM aJ x3.1.kids])] [] (qr eW)
 ·refine qk ?_
  obtain⟨x5,hx5,h⟩:=bd h
  obtain rfl:=so h
  exact rq hC [oC [] [22] (mG G n hx5),.z (.at 5),.z (.fz 22 [20] []),.z (.int 0)] (fr 20 5) [] [(22,none),(20,sc [vS [65],vM aA [x5],vI 1,vI 1,V.t T.nilS,vI 0,vS [],V.t T.nilS,V.t T.nilS])] [(22,true)] (qr eW)
theorem aCU{sizes}{r}(h:uY n sizes=some r):VQ G 230 [] [vM rI sizes] (V.tup [ms 0 1 2 aC r.1,vB r.2]) [ar 58 1 2 aC r.1]:=by
 unfold uY at h
 refine vq aN Tryz.func230 rfl fun w X β0 hC hg=> ?_
 refine rq hC [] [2,3] [] [] [] (rq hC [.z (.nat 20)] [4,6] [(4,ms 20 1 2 aC [])] [(20,some (ar 58 1 2 aC []))] [(20,true)] (qs (rq hC [oN rI sizes] [7,8,9] [(9,vB (decide ((4:Int)<(sizes.length:Int))))] [] [] (aT h (fun c1 h=> ?_) (fun c1 h=> ?_)))))
 ·obtain rfl:=so h
  exact rq hC [] [2,3,10] [(2,ms 20 1 2 aC []),(3,vB false)] [] [] (qw (lk hC [.ren 2 20 0] [2] [(2,ms 0 1 2 aC [])] [(0,some (ar 58 1 2 aC [])),(20,none)] [(0,true)]) (qr eW))
 ·refine qk (qs (rq hC [] [5] [(5,vI 0)] [] [] (qb (aZ (γ:=Nat) h (fun x_ g_=>aW [(0,vM rI sizes),(4,ms 20 g_ 2 aC x_.1),(5,vI x_.2)] [(20,ar 58 g_ 2 aC x_.1)] [20]) 1 (lS) ?_))))
  rintro again4 ⟨x1,x2⟩ g3 h
  refine qs (rq hC [oN rI sizes] (fr 11 4) [(14,vB (decide (x2<(sizes.length:Int))))] [] [] (aT h (fun c2 h=> ?_) (fun c2 h=> ?_)))
  ·refine qk (qs (qb (qs (vj h (fun x_=>aW [(0,vM rI sizes),(4,ms 20 g3 2 aC x1),(5,vI x2),(28,vB x_)] [(20,ar 58 g3 2 aC x1)] [20]) (fun j5 h=> ?_) (fun x7 h=> ?_)))))
   ·
    obtain⟨x6,hx6,h⟩:=bd h
    refine aS h (fun c3 h=> ?_) (fun c3 h=> ?_)
    ·exact rk hC ([oR rI hx6]++rF 3 c3++[oR rI hx6]++rF 3 c3) (fr 17 12) [(28,vB (decide ((99:Int)<x6)))] [] [] (lE h)
    ·exact rk hC ([oR rI hx6]++rT 6 c3) (fr 17 12) [(28,vB true)] [] [] (lE h)
   ·refine aT h (fun c4 h=> ?_) (fun c4 h=> ?_)
    ·obtain rfl:=so h
     exact rq hC [.z (.nat 21)] [2,3,29] [(2,ms 21 1 2 aC []),(3,vB false)] [(21,some (ar 58 1 2 aC []))] [(21,true)] (qw (lk hC [.ren 2 21 0] [2] [(2,ms 0 1 2 aC [])] [(0,some (ar 58 1 2 aC [])),(21,none)] [(0,true)]) (qr eW))
    ·refine qk ?_
     obtain⟨x8,hx8,x9,hx9,x10,hx10,h⟩:=jI h
     obtain⟨x11,hx11,h⟩:=bd h
     exact dk hC bD [oC [] [21] (mG G n hx8),.z (.at 11),.z (.fz 21 [31] []),.z (.int 0),oR rI hx9,oC [] [22] (cZ G hx10),.z (.at 5),.z (.fz 22 [37] []),.z (.int 0),.z (.int 0),oA (aO aC hx11),oQ (bP (r:=aC) 2 b9 x1),oQ (bP (r:=aC) 2 b9 [(⟨[x8],[x10]⟩:Loop)])] [4,30,31,32,33,34,35,36,37,38,39,40,41] [(4,ms 20 (g3+1) 2 aC x11)] [(21,none),(22,none),(20,some (ar 58 (g3+1) 2 aC x11))] [(21,true),(22,true)] (rk hC [] [5,15,16] [(5,vI (wr (x2+1)))] [] [] ⟨(x11,wr (x2+1)),(g3+1),h,lS⟩)
  ·obtain rfl:=so h
   exact cK (rq hC [] [2,3,42] [(2,ms 20 g3 2 aC x1),(3,vB true)] [] [] (qw (lk hC [.ren 2 20 0] [2] [(2,ms 0 1 2 aC x1)] [(0,some (ar 58 1 2 aC x1)),(20,none)] [(0,true)]) (qr eW)))
theorem aEx{r_a0}{r}(h:tS n r_a0=some r):VQ G 174 [eL r_a0] [V.ref 0 0] (V.agg (lO r.1)) [eL r.2]:=by
 unfold tS at h
 refine vq aN Tryz.func174 rfl fun w X β0 hC hg=> ?_
 refine rq hC [.z (.nat 20)] [2] [(2,V.ref 20 0)] [(20,sc [V.t T.nilS,V.t T.nilS])] [(20,true)] (qs (rq hC [] [3] [(3,vI 0)] [] [] (qb (jG h (fun x_=>aW [(0,V.ref 0 0),(2,V.ref 20 0),(3,vI x_.2.2)] [(0,E.cells [vM rY x_.1,vI x_.2.1]),(20,E.cells [V.t T.nilS,V.t T.nilS])] [0,20]) lS ?_))))
 rintro again4 ⟨x1,x2,x3⟩ h
 refine qs (rq hC [] [16,17] [(17,vB (decide (x3<4)))] [] [] (aT h (fun c1 h=> ?_) (fun c1 h=> ?_)))
 ·refine qk (qs (qb ?_))
  obtain⟨x5,hx5,h⟩:=bd h
  refine rq hC [oC [0] [21] (aEB G hx5),.z (.nat 22)] [4,20,21,22] [(4,V.ref 22 0)] [(21,some (ar 58 1 2 aC x5.1)),(0,sR x5.2),(22,sc [ms 21 1 2 aC x5.1,V.t T.nilS])] [(0,true),(21,true),(22,true)] (qs ?_)
  obtain⟨x6,hx6,h⟩:=bd h
  refine rq hC [.z (.int 0),oC [0] [] (bC G hx6)] [5,23,24,25] [(5,vI x6.1)] [(0,sR x6.2)] [(0,true)] (qb (qw (lk hC [.fz 21 [] [22]] [] [] [(22,sc [vM aC x5.1,V.t T.nilS]),(21,none)] []) (qw (lk hC [.growc 22 1 23 87] [] [] [(23,some (ar 87 1 9 aG [])),(22,sc [vM aC x5.1,ms 23 1 9 aG []])] [(23,true)]) (aZ (γ:=Nat) h (fun x_ g_=>aW [(0,V.ref 0 0),(2,V.ref 20 0),(3,vI x3),(4,V.ref 22 0),(5,vI x_.2.2.2.2)] [(0,E.cells [vM rY x_.1,vI x_.2.1]),(20,E.cells [V.t T.nilS,V.t T.nilS]),(22,E.cells [vM aC x_.2.2.1,ms 23 g_ 9 aG x_.2.2.2.1]),(23,ar 87 g_ 9 aG x_.2.2.2.1)] [0,20,21,22,23]) 1 (lS) ?_))))
  rintro again13 ⟨x7,x8,x9,x10,x11⟩ g12 h
  refine qs (rq hC [] [26,27] [(27,vB (decide ((0:Int)<x11)))] [] [] (aT h (fun c2 h=> ?_) (fun c2 h=> ?_)))
  ·refine qk ?_
   obtain⟨j14,hj14,h⟩:=A8 h
   refine kQ (γ:=Nat) (j:=j14) (r:=r) (fun x_ g_=>aW [(0,V.ref 0 0),(2,V.ref 20 0),(3,vI x3),(4,V.ref 22 0),(5,vI x11)] [(0,E.cells [vM rY x_.1,vI x_.2.1]),(20,E.cells [V.t T.nilS,V.t T.nilS]),(22,E.cells [vM aC x9,ms 23 g_ 9 aG x_.2.2]),(23,ar 87 g_ 9 aG x_.2.2)] [0,20,21,22,23]) ?_ ?_
   ·
    refine qb (rq hC [] [6] [(6,vI 0)] [] [] (qb (jG h (fun x_=>aW [(0,V.ref 0 0),(2,V.ref 20 0),(3,vI x3),(4,V.ref 22 0),(5,vI x11),(6,vI x_.2.2)] [(0,E.cells [vM rY x_.1,vI x_.2.1]),(20,E.cells [V.t T.nilS,V.t T.nilS]),(22,E.cells [vM aC x9,ms 23 g12 9 aG x10]),(23,ar 87 g12 9 aG x10)] [0,20,21,22,23]) lS ?_)))
    rintro again18 ⟨x15,x16,x17⟩ h
    refine qs (rq hC [] [30,31] [(31,vB (decide (x17<5)))] [] [] (aT h (fun c3 h=> ?_) (fun c3 h=> ?_)))
    ·refine qk (qs (qb ?_))
     obtain⟨x19,hx19,h⟩:=bd h
     refine rq hC [oN aC x9,oC [0] [] (aEy G hx19),.z (.nat 24)] [7,34,35,36,37,38] [(7,V.ref 24 0)] [(0,sR x19.2),(24,some (E.cells (cR x19.1)))] [(0,true),(24,true)] (qs ?_)
     obtain⟨x20,hx20,x21,hx21,h⟩:=cV h
     refine dk hC bD [oV (sK G n hx20),.z (.int 1),.z (.nat 25),.z (.at 7),.z (.fz 25 [44] []),oV (w7 G hx21)] [8,9,39,40,41,42,43,44,45,46,47,48] [(9,vB x21.2)] [(25,none)] [(25,true)] (rq hC [] [49] [(49,vB x21.2)] [] [] (aT h (fun c4 h=> ?_) (fun c4 h=> ?_)))
     ·obtain⟨x22,hx22,h⟩:=bd h
      exact rq hC [.z (.int 0),oA (aO aG hx22),oQ (bP (r:=aG) 9 dV x10),oQ (bP (r:=aG) 9 dV [x19.1])] (fr 50 6) [] [(23,some (ar 87 (g12+1) 9 aG x22)),(22,sc [vM aC x9,ms 23 (g12+1) 9 aG x22])] [] (cK ⟨(x19.2.b,x19.2.p,x22),(g12+1),h,lS⟩)
     ·exact qk (rk hC [] [6,32,33] [(6,vI (wr (x17+1)))] [] [] (lE h))
    ·exact cK ⟨(x15,x16,x10),g12,h,lS⟩
   ·rintro⟨x23,x24,x25⟩ g26 h
    subst hj14
    exact rk hC [] [5,28,29] [(5,vI (wr (x11-1)))] [] [] ⟨(x23,x24,x9,x25,wr (x11-1)),g26,h,lS⟩
  ·refine cK (qs ?_)
   obtain⟨x27,hx27,x28,hx28,h⟩:=cV h
   refine dk hC bD [oV (sK G n hx27),.z (.at 7),.z (.fz 23 [] [22]),oV (w7 G hx28)] [10,11,56,57,58,59,60,61] [(10,vI x28.1),(11,vB x28.2)] [(22,sc [vM aC x9,vM aG x10]),(23,none)] [] (vj h (fun x_=>aW [(0,V.ref 0 0),(2,V.ref 20 0),(3,vI x3),(4,V.ref 22 0),(66,vB x_)] [(0,E.cells [vM rY x7,vI x8]),(20,E.cells [V.t T.nilS,V.t T.nilS]),(22,E.cells [vM aC x9,vM aG x10])] [0,20,21,22,23]) (fun j29 h=> ?_) (fun x30 h=> ?_))
   ·
    refine aS h (fun c5 h=> ?_) (fun c5 h=> ?_)
    ·exact rk hC (rF 3 c5) (fr 62 5) [(66,vB false)] [] [] (lE h)
    ·exact rk hC (rT 3 c5) (fr 62 5) [(66,vB (decide (x28.1≤40)))] [] [] (lE h)
   ·refine aT h (fun c6 h=> ?_) (fun c6 h=> ?_)
    ·obtain rfl:=so h
     exact rq hC [] [67] [] [(20,sc [vM aC x9,vM aG x10])] [] (qr eW)
    ·exact qk (rk hC [] [3,18,19] [(3,vI (wr (x3+1)))] [] [] (lE h))
 ·refine cK ?_
  obtain⟨x31,hx31,h⟩:=bd h
  refine rq hC [oV (wE G hx31),.z (.nat 21)] [12,13,68,69,70,71] [(12,V.ref 21 0)] [(21,some (E.cells (cR x31.1)))] [(21,true)] ?_
  obtain⟨x32,hx32,h⟩:=bd h
  obtain rfl:=so h
  exact rq hC [.z (.int 0),oC [] [22] (aCU G hx32)] [14,15,72,73,74,75,76] [(14,ms 22 1 2 aC x32.1)] [(22,some (ar 58 1 2 aC x32.1))] [(22,true)] (rq hC [.z (.int 1),.z (.nat 23)] (fr 77 4) [] [(23,some (ar 87 1 9 aG [x31.1])),(20,sc [ms 22 1 2 aC x32.1,ms 23 1 9 aG [x31.1]])] [(23,true)] (qw (lk hC [.fz 22 [14] [20]] [14] [(14,vM aC x32.1)] [(20,sc [vM aC x32.1,ms 23 1 9 aG [x31.1]]),(22,none)] []) (qw (lk hC [.fz 23 [] [20]] [] [] [(20,sc [vM aC x32.1,vM aG [x31.1]]),(23,none)] []) (qr eW))))
theorem aEw{r_a0}{r}(h:tR n r_a0=some r):VQ G 129 [eL r_a0] [V.ref 0 0] (V.agg (bJ r.1)) [eL r.2]:=by
 unfold tR at h
 refine vq aN Tryz.func129 rfl fun w X β0 hC hg=> ?_
 refine rq hC [.z (.nat 20)] [2] [(2,V.ref 20 0)] [(20,sc [V.t T.nilS,V.t T.nilS])] [(20,true)] ?_
 obtain⟨x1,hx1,h⟩:=bd h
 refine rq hC [oV (sK G n hx1),.z (.nat 21)] [3,5,6] [(3,V.ref 21 0)] [(21,sc [vM aI x1,V.t T.nilS])] [(21,true)] (qs ?_)
 obtain⟨x2,hx2,h⟩:=bd h
 refine rq hC [.z (.int 0),oC [0] [] (bC G hx2)] [4,7,8,9] [(4,vI x2.1)] [(0,sR x2.2)] [(0,true)] (qb (qw (lk hC [.growc 21 1 22 62] [] [] [(22,some (ar 62 1 2 aD [])),(21,sc [vM aI x1,ms 22 1 2 aD []])] [(22,true)]) (aZ (γ:=Nat) h (fun x_ g_=>aW [(0,V.ref 0 0),(2,V.ref 20 0),(3,V.ref 21 0),(4,vI x_.2.2.2)] [(0,E.cells [vM rY x_.1,vI x_.2.1]),(20,E.cells [V.t T.nilS,V.t T.nilS]),(21,E.cells [vM aI x1,ms 22 g_ 2 aD x_.2.2.1]),(22,ar 62 g_ 2 aD x_.2.2.1)] [0,20,21,22]) 1 (lS) ?_)))
 rintro again8 ⟨x3,x4,x5,x6⟩ g7 h
 refine qs (rq hC [] [10,11] [(11,vB (decide ((0:Int)<x6)))] [] [] (aT h (fun c1 h=> ?_) (fun c1 h=> ?_)))
 ·refine qk (qs (qb ?_))
  obtain⟨x9,hx9,x10,hx10,h⟩:=cV h
  exact dk hC bD [oC [0] [] (aEx G hx9),.z (.int 0),oA (aO aD hx10),oQ (bP (r:=aD) 2 b8 x5),oQ (bP (r:=aD) 2 b8 [x9.1])] (fr 14 7) [] [(0,sR x9.2),(22,some (ar 62 (g7+1) 2 aD x10)),(21,sc [vM aI x1,ms 22 (g7+1) 2 aD x10])] [(0,true)] (rk hC [] [4,12,13] [(4,vI (wr (x6-1)))] [] [] ⟨(x9.2.b,x9.2.p,x10,wr (x6-1)),(g7+1),h,lS⟩)
 ·refine cK (qs ?_)
  obtain⟨x11,hx11,h⟩:=bd h
  refine rq hC [.z (.at 2),.z (.fz 22 [] [21]),oV (dA G hx11)] [21,22] [(22,vB x11)] [(21,sc [vM aI x1,vM aD x5]),(22,none)] [] (aT h (fun c2 h=> ?_) (fun c2 h=> ?_))
  ·obtain rfl:=so h
   exact rq hC [] [23] [] [(20,sc [vM aI x1,vM aD x5])] [] (qr eW)
  ·refine qk (qs ?_)
   obtain⟨x12,hx12,x13,hx13,h⟩:=cV h
   obtain rfl:=so h
   exact dk hC bD [oV (sK G n hx12),oA (xU aD hx13),oQ (bP (r:=aD) 2 b8 x5)] (fr 24 5) [] [(20,sc [vM aI x12,vM aD x13])] [] (qr eW)
theorem aEr{r_a0}{r}(h:tM n r_a0=some r):VQ G 79 [eL r_a0] [V.ref 0 0] (V.agg (bJ r.1)) [eL r.2]:=by
 unfold tM at h
 refine vq aN Tryz.func79 rfl fun w X β0 hC hg=> ?_
 refine rq hC [.z (.nat 20)] [2] [(2,V.ref 20 0)] [(20,sc [V.t T.nilS,V.t T.nilS])] [(20,true)] ?_
 obtain⟨x1,hx1,h⟩:=bd h
 refine rq hC [.z (.int 0),oC [0] [] (nT G hx1)] [3,6,7,8] [(3,vS x1.1)] [(0,sR x1.2)] [(0,true)] ?_
 obtain⟨x2,hx2,x3,hx3,h⟩:=cV h
 refine rq hC [oS hx2,oV (C2 G hx3),.z (.nat 21)] [4,5,9,10,11,12,13,14] [(4,V.ref 21 0),(5,vB x3.2)] [(21,some (E.cells (bJ x3.1)))] [(21,true)] (qs (vj h (fun x_=>aW [(0,V.ref 0 0),(2,V.ref 20 0),(4,V.ref 21 0),(20,vB x_.2.2)] [(0,E.cells [vM rY x_.1,vI x_.2.1]),(20,E.cells [V.t T.nilS,V.t T.nilS]),(21,E.cells (bJ x3.1))] [0,20,21]) (fun j4 h=> ?_) ?_))
 ·
  refine aS h (fun c1 h=> ?_) (fun c1 h=> ?_)
  ·exact rk hC (rF 4 c1) (fr 15 6) [(20,vB false)] [] [] (lE h)
  ·obtain⟨x5,hx5,h⟩:=bd h
   exact rk hC [oT c1,oT c1,oC [0] [] (bO G hx5),oT c1,oT c1] (fr 15 6) [(20,vB (decide ((0:Int)<x5.1)))] [(0,sR x5.2)] [(0,true)] (lE h)
 ·rintro⟨x6,x7,x8⟩ h
  refine aT h (fun c2 h=> ?_) (fun c2 h=> ?_)
  ·obtain rfl:=so h
   exact rq hC [] [21] [] [(20,some (E.cells (bJ x3.1)))] [] (qr eW)
  ·refine qk ?_
   obtain⟨x9,hx9,h⟩:=bd h
   obtain rfl:=so h
   exact rq hC [oC [0] [] (aEw G hx9)] [22,23] [] [(0,sR x9.2),(20,some (E.cells (bJ x9.1)))] [(0,true)] (qr eW)
theorem aEt{r_a0}{r}(h:tO n r_a0=some r):VQ G 26 [eL r_a0] [V.ref 0 0] (V.tup [V.agg (bJ r.1),vI r.2.1,vI r.2.2.1,vI r.2.2.2.1]) [eL r.2.2.2.2]:=by
 unfold tO at h
 refine vq aN Tryz.func26 rfl fun w X β0 hC hg=> ?_
 refine rq hC [.z (.nat 20)] (fr 2 4) [(2,V.ref 20 0)] [(20,sc [V.t T.nilS,V.t T.nilS])] [(20,true)] ?_
 obtain⟨x1,hx1,x2,hx2,h⟩:=cV h
 refine rq hC [oC [0] [] (aEr G hx1),oC [0] [] (aBo G hx2),.z (.nat 21)] [6,8,9,10,11] [(6,V.ref 21 0)] [(0,sR x2.2),(21,some (E.cells (bJ x2.1)))] [(0,true),(0,true),(21,true)] ?_
 obtain⟨x3,hx3,h⟩:=bd h
 refine rq hC [.z (.int 0),oC [0] [] (bC G hx3)] [7,12,13,14] [(7,vI x3.1)] [(0,sR x3.2)] [(0,true)] (qs ?_)
 obtain⟨x4,hx4,x5,hx5,h⟩:=cV h
 obtain rfl:=so h
 exact dk hC bD [.z (.int 0),oC [0] [] (bC G hx4),.z (.int 0),oC [0] [] (bC G hx5)] [3,4,5,15,16,17,18,19,20,21,22] [(3,vI x3.1),(4,vI x4.1),(5,vI x5.1)] [(0,sR x5.2),(20,some (E.cells (bJ x2.1)))] [(0,true),(0,true)] (qr eW)
theorem aCT{code}{r}(h:n4 n code=some r):VQ G 27 [] [vM rY code] (V.ref 0 0) [eL r]:=by
 unfold n4 at h
 refine vq aN Tryz.func27 rfl fun w X β0 hC hg=> ?_
 refine rq hC [] [2] [] [] [] (vj h (fun x_=>aW [(0,vM rY x_)] [] []) (fun j1 h=> ?_) (fun x3 h=> ?_))
 ·
  refine rq hC [oN rY code] [3,4,5] [(5,vB (decide ((2000:Int)<(code.length:Int))))] [] [] (aT h (fun c1 h=> ?_) (fun c1 h=> ?_))
  ·obtain⟨x2,hx2,h⟩:=bd h
   exact rk hC [oA (xU rY hx2),oQ (bP (r:=rY) 1 (fun _=>rfl) code)] [0,6,7] [(0,vM rY x2)] [] [] (lE h)
  ·exact qk (lE h)
 ·obtain rfl:=so h
  exact rq hC [.z (.nat 0)] [2,8,9,10] [(2,V.ref 0 0)] [(0,sc [vM rY x3,vI 0])] [(0,true)] (qr eW)
theorem zB{code}{r}(h:jU n code=some r):PQ G 7 [vM rY code] (V.tup [V.agg (bJ r.1),vI r.2.1,vI r.2.2.1,vI r.2.2.2]):=by
 unfold jU at h
 refine pq aN Tryz.func7 rfl fun w X hC=> ?_
 refine rq hC [.z (.nat 20)] (fr 2 4) [(2,V.ref 20 0)] [(20,sc [V.t T.nilS,V.t T.nilS])] [(20,true)] ?_
 obtain⟨x1,hx1,x2,hx2,h⟩:=cV h
 obtain rfl:=so h
 exact rq hC [oC [] [21] (aCT G hx1),oC [21] [] (aEt G hx2)] (fr 3 10) [(3,vI x2.2.1),(4,vI x2.2.2.1),(5,vI x2.2.2.2.1)] [(21,sR x2.2.2.2.2),(20,some (E.cells (bJ x2.1)))] [(21,true),(21,true)] (qr eR)
theorem zC{n_a0}{r}(h:o6 n n_a0=some r):VQ G 33 [] [vI n_a0] (V.agg [ms 0 1 1 rI r.coefs,vI r.const]) [ar 3 1 1 rI r.coefs]:=by
 unfold o6 at h
 refine vq aN Tryz.func33 rfl fun w X β0 hC hg=> ?_
 refine rq hC [.z (.nat 20)] [2] [(2,V.ref 20 0)] [(20,sc [V.t T.nilS,vI 0])] [(20,true)] ?_
 obtain⟨x1,hx1,h⟩:=bd h
 obtain rfl:=so h
 exact rq hC [.z (.nat 21),oA (aHx rI hx1),oQ (H8 hx1).1] [3,4,5] [] [(21,some (ar 3 1 1 rI x1)),(20,sc [ms 21 1 1 rI x1,vI n_a0])] [(21,true)] (qw (lk hC [.rn 21 0 [] [20]] [] [] [(20,sc [ms 0 1 1 rI x1,vI n_a0]),(21,none),(0,some (ar 3 1 1 rI x1))] [(0,true)]) (qr eW))
theorem aBq{v}{k}{r}(h:sB n v k=some r):VQ G 34 [] [vI v,vI k] (V.agg [ms 0 1 1 rI r.coefs,vI r.const]) [ar 3 1 1 rI r.coefs]:=by
 unfold sB at h
 refine vq aN Tryz.func34 rfl fun w X β0 hC hg=> ?_
 refine rq hC [.z (.nat 20)] [4] [(4,V.ref 20 0)] [(20,sc [V.t T.nilS,vI 0])] [(20,true)] ?_
 obtain⟨x1,hx1,h⟩:=bd h
 refine rq hC [oC [] [21] (zC G hx1),.z (.nat 22)] [5,6] [(5,V.ref 22 0)] [(21,some (ar 3 1 1 rI x1.coefs)),(22,sc [ms 21 1 1 rI x1.coefs,vI x1.const])] [(21,true),(22,true)] ?_
 obtain⟨x2,hx2,x3,hx3,h⟩:=cV h
 obtain rfl:=so h
 exact rq hC [oQ (jO rI hx2),oX rI hx2,.z (.rows (List.map rI x3)),.z (.lenc 22 0 (List.map rI x3).length),oQ (str rI hx3),oQ (gY rI hx3)] (fr 7 5) [] [(21,some (ar 3 1 1 rI x3)),(22,sc [ms 21 1 1 rI x3,vI x1.const])] [] (rq hC [] [12] [] [(20,sc [ms 21 1 1 rI x3,vI x1.const])] [] (qw (lk hC [.rn 21 0 [] [20,22]] [] [] [(20,sc [ms 0 1 1 rI x3,vI x1.const]),(22,sc [ms 0 1 1 rI x3,vI x1.const]),(21,none),(0,some (ar 3 1 1 rI x3))] [(0,true)]) (qr eW)))
theorem wH(G:GS)(n:Nat)(a:Access)(changeF:FuncId)(change:Affine→Option Affine)(hchange: ∀(q0:Affine) r,change q0=some r→PQ G changeF [V.agg (aK q0)] (V.agg (aK r))){r:Access}(h:gA n a change=some r):PQ G 131 [V.agg (cD a),V.fn changeF []] (V.agg (cD r)):=by
 unfold gA at h
 refine pq aN Tryz.func131 rfl fun w X hC=> ?_
 refine rq hC [.z (.b (true)),.z (.nat 20)] [2,4] [(2,V.tp (dO a)),(4,V.ref 20 0)] [(20,sc [vS [],V.t T.nilS])] [(20,true)] (rq hC [.z (.nat 21)] [5,8,9,10] [(5,V.ref 21 0)] [(21,sc [vS a.array,V.t T.nilS])] [(21,true)] (qs (rq hC [oN aA a.subs] (fr 11 4) [(12,vM aA a.subs),(13,vI (a.subs.length:Int)),(14,vI 0)] [] [] (qb (qw (lk hC [.growc 21 1 22 65] [] [] [(22,some (ar 65 1 2 aA [])),(21,sc [vS a.array,ms 22 1 2 aA []])] [(22,true)]) ?_)))))
 refine aZ (γ:=Nat) h (fun x_ g_=>aW [(1,V.fn changeF []),(4,V.ref 20 0),(5,V.ref 21 0),(12,vM aA a.subs),(13,vI (a.subs.length:Int)),(14,vI x_.2)] [(20,E.cells [vS [],V.t T.nilS]),(21,E.cells [vS a.array,ms 22 g_ 2 aA x_.1]),(22,ar 65 g_ 2 aA x_.1)] [20,21,22]) 1 (lS) ?_
 rintro again4 ⟨x1,x2⟩ g3 h
 refine rq hC [] [15] [(15,vB (decide (x2<(a.subs.length:Int))))] [] [] (qs (aT h (fun c1 h=> ?_) (fun c1 h=> ?_)))
 ·refine qk (qs (qb ?_))
  obtain⟨x5,hx5,h⟩:=bd h
  refine rq hC [oR aA hx5,.z (.nat 23)] [7,16,17] [(7,V.ref 23 0)] [(23,some (E.cells (aK x5)))] [(23,true)] ?_
  obtain⟨x6,hx6,x7,hx7,h⟩:=cV h
  exact dk hC bD [oV (hchange x5 _ hx6),.z (.int 0),oA (aO aA hx7),oQ (bP (r:=aA) 2 aU x1),oQ (bP (r:=aA) 2 aU [x6])] (fr 18 8) [] [(22,some (ar 65 (g3+1) 2 aA x7)),(21,sc [vS a.array,ms 22 (g3+1) 2 aA x7])] [] (rk hC [] [14,26] [(14,vI (wr (x2+1)))] [] [] ⟨(x7,wr (x2+1)),(g3+1),h,lS⟩)
 ·obtain rfl:=so h
  exact cK (rq hC [.z (.at 2),.z (.fz 22 [] [21])] [27] [] [(21,sc [vS a.array,vM aA x1]),(22,none),(20,sc [vS a.array,vM aA x1])] [] (qr eR))
theorem aC0(G:GS): ∀(n:Nat) (e:Expr) (changeF:FuncId) (change:Affine→Option Affine) (hchange: ∀(q0:Affine) r,change q0=some r→PQ G changeF [V.agg (aK q0)] (V.agg (aK r))) {r:Expr} (h:i_exprMap n e change=some r),PQ G 132 [V.agg (dB e),V.fn changeF []] (V.agg (dB r)):=by
 intro n
 induction n with
 |zero=>intro e changeF change hchange r h;rw [i_exprMap.eq_def] at h;cases h
 |succ n ih=>
  intro e changeF change hchange r h
  rw [i_exprMap.eq_def] at h;dsimp only at h
  refine pq aN Tryz.func132 rfl fun w X hC=> ?_
  refine rq hC [.z (.b (true)),.z (.nat 20)] [2,4] [(2,V.tp (fM e)),(4,V.ref 20 0)] [(20,sc [vI 0,vI 0,V.t T.nilS,vI 0,vS [],V.t T.nilS,V.t T.nilS])] [(20,true)] (rq hC [.z (.nat 21)] [5,8,9,10,11,12] [(5,V.ref 21 0)] [(21,sc [vI e.kind,vI e.num,V.t T.nilS,vI 0,vS [],V.t T.nilS,V.t T.nilS])] [(21,true)] (vj h (fun x_=>aW [(1,V.fn changeF []),(2,V.tp (fM e)),(4,V.ref 20 0),(5,V.ref 21 0)] [(20,E.cells [vI 0,vI 0,V.t T.nilS,vI 0,vS [],V.t T.nilS,V.t T.nilS]),(21,E.cells [vI e.kind,vI e.num,vM rI x_.1,vI x_.2.1,vS x_.2.2.1,vM aA x_.2.2.2,V.t T.nilS])] [20,21]) (fun j1 h=> ?_) ?_))
  ·
   refine rq hC [] [13,14] [(14,vI e.kind)] [] [] (qb (rq hC [] [15,16] [(15,vB (decide (e.kind=2)))] [] [] (aT h (fun c1 h=> ?_) (fun c1 h=> ?_))))
   ·obtain⟨x2,hx2,h⟩:=bd h
    exact rk hC [oV (hchange e.index _ hx2)] (fr 17 5) [] [(21,sc [vI e.kind,vI e.num,vM rI x2.coefs,vI x2.const,vS [],V.t T.nilS,V.t T.nilS])] [] (lE h)
   ·refine rq hC [] [22,23] [(22,vB (decide (e.kind=3)))] [] [] (aT h (fun c2 h=> ?_) (fun c2 h=> ?_))
    ·obtain⟨x3,hx3,h⟩:=bd h
     exact rk hC [oV (wH G n e.read changeF change hchange hx3)] (fr 24 5) [] [(21,sc [vI e.kind,vI e.num,V.t T.nilS,vI 0,vS x3.array,vM aA x3.subs,V.t T.nilS])] [] (lE h)
    ·exact qk (lE h)
  ·rintro⟨x4,x5,x6,x7⟩ h
   refine qs (rq hC [oN aJ e.kids] (fr 29 4) [(30,vM aJ e.kids),(31,vI (e.kids.length:Int)),(32,vI 0)] [] [] (qb (qw (lk hC [.growc 21 6 22 85] [] [] [(22,some (ar 85 1 7 aJ [])),(21,sc [vI e.kind,vI e.num,vM rI x4,vI x5,vS x6,vM aA x7,ms 22 1 7 aJ []])] [(22,true)]) (aZ (γ:=Nat) h (fun x_ g_=>aW [(1,V.fn changeF []),(4,V.ref 20 0),(5,V.ref 21 0),(30,vM aJ e.kids),(31,vI (e.kids.length:Int)),(32,vI x_.2)] [(20,E.cells [vI 0,vI 0,V.t T.nilS,vI 0,vS [],V.t T.nilS,V.t T.nilS]),(21,E.cells [vI e.kind,vI e.num,vM rI x4,vI x5,vS x6,vM aA x7,ms 22 g_ 7 aJ x_.1]),(22,ar 85 g_ 7 aJ x_.1)] [20,21,22]) 1 (lS) ?_))))
   rintro again11 ⟨x8,x9⟩ g10 h
   refine rq hC [] [33] [(33,vB (decide (x9<(e.kids.length:Int))))] [] [] (qs (aT h (fun c3 h=> ?_) (fun c3 h=> ?_)))
   ·refine qk (qs (qb ?_))
    obtain⟨x12,hx12,h⟩:=bd h
    refine rq hC [.z (.row (eM x12)),.z (.nat 23),oQ (fO aJ hx12 (dC x12))] [7,34,35] [(7,V.ref 23 0)] [(23,some (E.cells (dB x12)))] [(23,true)] ?_
    obtain⟨x13,hx13,x14,hx14,h⟩:=cV h
    exact dk hC bD [oV (ih x12 changeF change hchange hx13),.z (.int 2),.z (.rows (List.map aJ [x13])),oQ (sJ x13),oA (aO aJ hx14),oQ (bP (r:=aJ) 7 dW x8),oQ (bP (r:=aJ) 7 dW [x13])] (fr 36 8) [] [(22,some (ar 85 (g10+1) 7 aJ x14)),(21,sc [vI e.kind,vI e.num,vM rI x4,vI x5,vS x6,vM aA x7,ms 22 (g10+1) 7 aJ x14])] [] (rk hC [] [32,44] [(32,vI (wr (x9+1)))] [] [] ⟨(x14,wr (x9+1)),(g10+1),h,lS⟩)
   ·obtain rfl:=so h
    exact cK (rq hC [.z (.at 2),.z (.fz 22 [] [21])] [45] [] [(21,sc [vI e.kind,vI e.num,vM rI x4,vI x5,vS x6,vM aA x7,vM aJ x8]),(22,none),(20,sc [vI e.kind,vI e.num,vM rI x4,vI x5,vS x6,vM aA x7,vM aJ x8])] [] (qr eR))
theorem aCV(G:GS)(n:Nat)(s:Stmt)(changeF:FuncId)(change:Affine→Option Affine)(hchange: ∀(q0:Affine) r,change q0=some r→PQ G changeF [V.agg (aK q0)] (V.agg (aK r))){r:Stmt}(h:gU n s change=some r):PQ G 82 [V.agg (cR s),V.fn changeF []] (V.agg (cR r)):=by
 unfold gU at h
 refine pq aN Tryz.func82 rfl fun w X hC=> ?_
 refine rq hC [.z (.b (true)),.z (.nat 20)] [2,4] [(2,V.tp (oG s)),(4,V.ref 20 0)] [(20,sc [vS [],V.t T.nilS,vI 0,vI 0,V.t T.nilS,vI 0,vS [],V.t T.nilS,V.t T.nilS])] [(20,true)] (qs ?_)
 obtain⟨x1,hx1,x2,hx2,h⟩:=cV h
 obtain rfl:=so h
 exact dk hC bD [oV (wH G n s.write changeF change hchange hx1),oV (aC0 G n s.value changeF change hchange hx2)] (fr 5 9) [] [(20,sc [vS x1.array,vM aA x1.subs,vI x2.kind,vI x2.num,vM rI x2.index.coefs,vI x2.index.const,vS x2.read.array,vM aA x2.read.subs,vM aJ x2.kids])] [] (qr eR)
theorem uR(G:GS)(n:Nat)(rows:List Loop)(i:Int)(l:Loop)(hl:ix rows i=some l)(g:Nat)(fF:FuncId)(fC0:List T)(f:Affine→Option Affine)(hf: ∀(q0:Affine) r,f q0=some r→PQ G fF [V.agg (aK q0),V.tp fC0] (V.agg (aK r))){l':Loop}{rows':List Loop}(h:eC n l f=some l')(hr:dF rows i l'=some rows'):
  VQ G 30 [E.tree eQ 1 g (List.map aC rows) []] [V.eref 0 g 2 (0+Int.toNat i) 0,V.fn fF [V.tp fC0]] (V.tup []) [E.tree eQ 1 g (List.map aC rows') []]:=by
 unfold eC at h
 refine vq aN Tryz.func30 rfl fun w X β0 hC hg=> ?_
 refine qs (dk hC bD [.z (.foc 0 21 (0+Int.toNat i) 0 (aC l)),.z (.foc 0 22 (0+Int.toNat i) 1 (aC l)),oX aC hl,oX aC hl,.z (.lt 23 eQ 4),.z (.nat 2),oQ (uD aC hl),oQ (uD aC hl),oQ (Eq.refl 2)] (fr 8 11) [(16,V.msl 23 1 1 0 2),(17,vI 2),(18,vI 0)] [(0,some (E.tree eQ 1 g (List.map aC rows) [((0+Int.toNat i),1,ms 22 1 2 aA l.hi),((0+Int.toNat i),0,ms 21 1 2 aA l.lo)])),(21,some (E.tree eQ 3 1 (List.map aA l.lo) [])),(22,some (E.tree eQ 3 1 (List.map aA l.hi) [])),(23,some (E.tree eQ 4 1 (List.replicate 2 [T.sl []]) [(0,0,ms 21 1 2 aA l.lo),(1,0,ms 22 1 2 aA l.hi)]))] [(21,true),(22,true),(23,true)] (qw (lk hC [.shd 21,.shd 22] [] [] [(21,some (ar 65 1 2 aA l.lo)),(22,some (ar 65 1 2 aA l.hi))] []) (qb (jG h (fun x_=>aW [(1,V.fn fF [V.tp fC0]),(16,V.msl 23 1 1 0 2),(17,vI 2),(18,vI x_.2)] [(0,E.tree eQ 1 g (List.map aC rows) [((0+Int.toNat i),1,ms 22 1 2 aA l.hi),((0+Int.toNat i),0,ms 21 1 2 aA l.lo)]),(23,E.tree eQ 4 1 (List.replicate 2 [T.sl []]) [(0,0,ms 21 1 2 aA l.lo),(1,0,ms 22 1 2 aA l.hi)]),(21,ar 65 1 2 aA x_.1.lo),(22,ar 65 1 2 aA x_.1.hi)] [0,21,22,23]) lS ?_))))
 rintro again1 ⟨x,q⟩ h
 obtain⟨s1,hs1,h⟩:=bd h
 obtain⟨s2,hs2,h⟩:=bd h
 refine rq hC [] [19] [(19,vB (decide (q<2)))] [] [] (qs (aT h (fun c1 h=> ?_) (fun c1 h=> ?_)))
 ·refine qk (qs (qb (qs (aS h (fun c2 h=> ?_) (fun c2 h=> ?_)))))
  ·refine aS h (fun c3 h=> ?_) (fun c3 h=> ?_)
   ·exact nof h
   ·have e:=of_decide_eq_true c3
    subst e
    refine rk hC [.z (.int 1),.z (.row [T.sl []]),oQ (And.intro (by decide) (by decide):(0:Int)≤1∧(1:Int)<((2:Nat):Int)),oQ (Eq.refl (some [T.sl []]))] [5,20,21] [(5,ms 22 1 2 aA l.hi)] [] [] (qw (A3 hC [.len 5 (List.map aA x.hi).length] [5] [(5,ms 22 1 2 aA x.hi)] [] [] (a1 (m8 aA hs2)) (by kernel_rfl)) (rq hC [oN aA x.hi] [22,23,24] [(22,ms 22 1 2 aA x.hi),(23,vI (x.hi.length:Int)),(24,vI 0)] [] [] (qb (jG h (fun x_=>aW [(1,V.fn fF [V.tp fC0]),(16,V.msl 23 1 1 0 2),(17,vI 2),(18,vI 1),(5,ms 22 1 2 aA x_.1),(22,ms 22 1 2 aA x_.1),(23,vI (x.hi.length:Int)),(24,vI x_.2)] [(0,E.tree eQ 1 g (List.map aC rows) [((0+Int.toNat i),1,ms 22 1 2 aA l.hi),((0+Int.toNat i),0,ms 21 1 2 aA l.lo)]),(23,E.tree eQ 4 1 (List.replicate 2 [T.sl []]) [(0,0,ms 21 1 2 aA l.lo),(1,0,ms 22 1 2 aA l.hi)]),(21,ar 65 1 2 aA x.lo),(22,ar 65 1 2 aA x_.1)] [0,21,22,23]) lS ?_))))
    rintro again2 ⟨y,k⟩ h
    refine rq hC [] [25] [(25,vB (decide (k<(x.hi.length:Int))))] [] [] (qs (aT h (fun c4 h=> ?_) (fun c4 h=> ?_)))
    ·refine qk (qs (qb ?_))
     obtain⟨x3,hx3,h⟩:=bd h
     refine rq hC [oQ (jO aA hx3),oX aA hx3,.z (.nat 24)] [6,7,26,27,28] [(6,vI k),(7,V.ref 24 0)] [(24,some (E.cells (aK x3)))] [(24,true)] ?_
     obtain⟨x4,hx4,x5,hx5,h⟩:=cV h
     exact rk hC [oV (hf x3 _ hx4),oQ (jO aA hx3),oX aA hx3,.z (.rows (List.map aA x5)),.z (.len 5 (List.map aA x5).length),.z (.len 22 (List.map aA x5).length),oQ (str aA hx5),oQ (gY aA hx5),oQ (gY aA hx5)] [5,22,29,30,31,32,33,34] [(5,ms 22 1 2 aA x5),(22,ms 22 1 2 aA x5)] [(22,some (ar 65 1 2 aA x5))] [] (rk hC [] [24,35] [(24,vI (wr (k+1)))] [] [] (lE h))
    ·exact cK (rk hC [] [18,36] [(18,vI (wr (1+1)))] [] [] (lE h))
  ·have e:=of_decide_eq_true c2
   subst e
   refine rk hC [.z (.int 0),.z (.row [T.sl []]),oQ (And.intro (by decide) (by decide):(0:Int)≤0∧(0:Int)<((2:Nat):Int)),oQ (Eq.refl (some [T.sl []]))] [5,20,21] [(5,ms 21 1 2 aA l.lo)] [] [] (qw (A3 hC [.len 5 (List.map aA x.lo).length] [5] [(5,ms 21 1 2 aA x.lo)] [] [] (a1 (m8 aA hs1)) (by kernel_rfl)) (rq hC [oN aA x.lo] [22,23,24] [(22,ms 21 1 2 aA x.lo),(23,vI (x.lo.length:Int)),(24,vI 0)] [] [] (qb (jG h (fun x_=>aW [(1,V.fn fF [V.tp fC0]),(16,V.msl 23 1 1 0 2),(17,vI 2),(18,vI 0),(5,ms 21 1 2 aA x_.1),(22,ms 21 1 2 aA x_.1),(23,vI (x.lo.length:Int)),(24,vI x_.2)] [(0,E.tree eQ 1 g (List.map aC rows) [((0+Int.toNat i),1,ms 22 1 2 aA l.hi),((0+Int.toNat i),0,ms 21 1 2 aA l.lo)]),(23,E.tree eQ 4 1 (List.replicate 2 [T.sl []]) [(0,0,ms 21 1 2 aA l.lo),(1,0,ms 22 1 2 aA l.hi)]),(21,ar 65 1 2 aA x_.1),(22,ar 65 1 2 aA x.hi)] [0,21,22,23]) lS ?_))))
   rintro again2 ⟨y,k⟩ h
   refine rq hC [] [25] [(25,vB (decide (k<(x.lo.length:Int))))] [] [] (qs (aT h (fun c4 h=> ?_) (fun c4 h=> ?_)))
   ·refine qk (qs (qb ?_))
    obtain⟨x3,hx3,h⟩:=bd h
    refine rq hC [oQ (jO aA hx3),oX aA hx3,.z (.nat 24)] [6,7,26,27,28] [(6,vI k),(7,V.ref 24 0)] [(24,some (E.cells (aK x3)))] [(24,true)] ?_
    obtain⟨x4,hx4,x5,hx5,h⟩:=cV h
    exact rk hC [oV (hf x3 _ hx4),oQ (jO aA hx3),oX aA hx3,.z (.rows (List.map aA x5)),.z (.len 5 (List.map aA x5).length),.z (.len 22 (List.map aA x5).length),oQ (str aA hx5),oQ (gY aA hx5),oQ (gY aA hx5)] [5,22,29,30,31,32,33,34] [(5,ms 21 1 2 aA x5),(22,ms 21 1 2 aA x5)] [(21,some (ar 65 1 2 aA x5))] [] (rk hC [] [24,35] [(24,vI (wr (k+1)))] [] [] (lE h))
   ·exact cK (rk hC [] [18,36] [(18,vI (wr (0+1)))] [] [] (lE h))
 ·obtain rfl:=so h
  exact qw (A3 hC [.tre 21 eQ 3,.tre 22 eQ 3,.unf 0 22 (aC l) (List.map aC (rows.set i.toNat (⟨l.lo,x.hi⟩:Loop))),.unf 0 21 (aC (⟨l.lo,x.hi⟩:Loop)) (List.map aC rows')] [] [] [(21,none),(22,none),(0,some (E.tree eQ 1 g (List.map aC rows') []))] [] (a8 (m8 aA hs2) (Eq.refl eQ) (uD aC hl) (G0 aC (K2 hr (⟨l.lo,x.hi⟩:Loop)) rfl) (m8 aA hs1) (Eq.refl eQ) (uD aC (aDS hr (⟨l.lo,x.hi⟩:Loop))) (G0 aC (K1 hr (⟨l.lo,x.hi⟩:Loop)) rfl)) (by kernel_rfl)) (cK eW)
theorem uQ(G:GS)(n:Nat)(rows:List Loop)(i:Int)(l:Loop)(hl:ix rows i=some l)(g:Nat)(fF:FuncId)(fC0:List T)(fC1:List T)(f:Affine→Option Affine)(hf: ∀(q0:Affine) r,f q0=some r→PQ G fF [V.agg (aK q0),V.tp fC0,V.tp fC1] (V.agg (aK r))){l':Loop}{rows':List Loop}(h:eC n l f=some l')(hr:dF rows i l'=some rows'):
  VQ G 30 [E.tree eQ 1 g (List.map aC rows) []] [V.eref 0 g 2 (0+Int.toNat i) 0,V.fn fF [V.tp fC0,V.tp fC1]] (V.tup []) [E.tree eQ 1 g (List.map aC rows') []]:=by
 unfold eC at h
 refine vq aN Tryz.func30 rfl fun w X β0 hC hg=> ?_
 refine qs (dk hC bD [.z (.foc 0 21 (0+Int.toNat i) 0 (aC l)),.z (.foc 0 22 (0+Int.toNat i) 1 (aC l)),oX aC hl,oX aC hl,.z (.lt 23 eQ 4),.z (.nat 2),oQ (uD aC hl),oQ (uD aC hl),oQ (Eq.refl 2)] (fr 8 11) [(16,V.msl 23 1 1 0 2),(17,vI 2),(18,vI 0)] [(0,some (E.tree eQ 1 g (List.map aC rows) [((0+Int.toNat i),1,ms 22 1 2 aA l.hi),((0+Int.toNat i),0,ms 21 1 2 aA l.lo)])),(21,some (E.tree eQ 3 1 (List.map aA l.lo) [])),(22,some (E.tree eQ 3 1 (List.map aA l.hi) [])),(23,some (E.tree eQ 4 1 (List.replicate 2 [T.sl []]) [(0,0,ms 21 1 2 aA l.lo),(1,0,ms 22 1 2 aA l.hi)]))] [(21,true),(22,true),(23,true)] (qw (lk hC [.shd 21,.shd 22] [] [] [(21,some (ar 65 1 2 aA l.lo)),(22,some (ar 65 1 2 aA l.hi))] []) (qb (jG h (fun x_=>aW [(1,V.fn fF [V.tp fC0,V.tp fC1]),(16,V.msl 23 1 1 0 2),(17,vI 2),(18,vI x_.2)] [(0,E.tree eQ 1 g (List.map aC rows) [((0+Int.toNat i),1,ms 22 1 2 aA l.hi),((0+Int.toNat i),0,ms 21 1 2 aA l.lo)]),(23,E.tree eQ 4 1 (List.replicate 2 [T.sl []]) [(0,0,ms 21 1 2 aA l.lo),(1,0,ms 22 1 2 aA l.hi)]),(21,ar 65 1 2 aA x_.1.lo),(22,ar 65 1 2 aA x_.1.hi)] [0,21,22,23]) lS ?_))))
 rintro again1 ⟨x,q⟩ h
 obtain⟨s1,hs1,h⟩:=bd h
 obtain⟨s2,hs2,h⟩:=bd h
 refine rq hC [] [19] [(19,vB (decide (q<2)))] [] [] (qs (aT h (fun c1 h=> ?_) (fun c1 h=> ?_)))
 ·refine qk (qs (qb (qs (aS h (fun c2 h=> ?_) (fun c2 h=> ?_)))))
  ·refine aS h (fun c3 h=> ?_) (fun c3 h=> ?_)
   ·exact nof h
   ·have e:=of_decide_eq_true c3
    subst e
    refine rk hC [.z (.int 1),.z (.row [T.sl []]),oQ (And.intro (by decide) (by decide):(0:Int)≤1∧(1:Int)<((2:Nat):Int)),oQ (Eq.refl (some [T.sl []]))] [5,20,21] [(5,ms 22 1 2 aA l.hi)] [] [] (qw (A3 hC [.len 5 (List.map aA x.hi).length] [5] [(5,ms 22 1 2 aA x.hi)] [] [] (a1 (m8 aA hs2)) (by kernel_rfl)) (rq hC [oN aA x.hi] [22,23,24] [(22,ms 22 1 2 aA x.hi),(23,vI (x.hi.length:Int)),(24,vI 0)] [] [] (qb (jG h (fun x_=>aW [(1,V.fn fF [V.tp fC0,V.tp fC1]),(16,V.msl 23 1 1 0 2),(17,vI 2),(18,vI 1),(5,ms 22 1 2 aA x_.1),(22,ms 22 1 2 aA x_.1),(23,vI (x.hi.length:Int)),(24,vI x_.2)] [(0,E.tree eQ 1 g (List.map aC rows) [((0+Int.toNat i),1,ms 22 1 2 aA l.hi),((0+Int.toNat i),0,ms 21 1 2 aA l.lo)]),(23,E.tree eQ 4 1 (List.replicate 2 [T.sl []]) [(0,0,ms 21 1 2 aA l.lo),(1,0,ms 22 1 2 aA l.hi)]),(21,ar 65 1 2 aA x.lo),(22,ar 65 1 2 aA x_.1)] [0,21,22,23]) lS ?_))))
    rintro again2 ⟨y,k⟩ h
    refine rq hC [] [25] [(25,vB (decide (k<(x.hi.length:Int))))] [] [] (qs (aT h (fun c4 h=> ?_) (fun c4 h=> ?_)))
    ·refine qk (qs (qb ?_))
     obtain⟨x3,hx3,h⟩:=bd h
     refine rq hC [oQ (jO aA hx3),oX aA hx3,.z (.nat 24)] [6,7,26,27,28] [(6,vI k),(7,V.ref 24 0)] [(24,some (E.cells (aK x3)))] [(24,true)] ?_
     obtain⟨x4,hx4,x5,hx5,h⟩:=cV h
     exact rk hC [oV (hf x3 _ hx4),oQ (jO aA hx3),oX aA hx3,.z (.rows (List.map aA x5)),.z (.len 5 (List.map aA x5).length),.z (.len 22 (List.map aA x5).length),oQ (str aA hx5),oQ (gY aA hx5),oQ (gY aA hx5)] [5,22,29,30,31,32,33,34] [(5,ms 22 1 2 aA x5),(22,ms 22 1 2 aA x5)] [(22,some (ar 65 1 2 aA x5))] [] (rk hC [] [24,35] [(24,vI (wr (k+1)))] [] [] (lE h))
    ·exact cK (rk hC [] [18,36] [(18,vI (wr (1+1)))] [] [] (lE h))
  ·have e:=of_decide_eq_true c2
   subst e
   refine rk hC [.z (.int 0),.z (.row [T.sl []]),oQ (And.intro (by decide) (by decide):(0:Int)≤0∧(0:Int)<((2:Nat):Int)),oQ (Eq.refl (some [T.sl []]))] [5,20,21] [(5,ms 21 1 2 aA l.lo)] [] [] (qw (A3 hC [.len 5 (List.map aA x.lo).length] [5] [(5,ms 21 1 2 aA x.lo)] [] [] (a1 (m8 aA hs1)) (by kernel_rfl)) (rq hC [oN aA x.lo] [22,23,24] [(22,ms 21 1 2 aA x.lo),(23,vI (x.lo.length:Int)),(24,vI 0)] [] [] (qb (jG h (fun x_=>aW [(1,V.fn fF [V.tp fC0,V.tp fC1]),(16,V.msl 23 1 1 0 2),(17,vI 2),(18,vI 0),(5,ms 21 1 2 aA x_.1),(22,ms 21 1 2 aA x_.1),(23,vI (x.lo.length:Int)),(24,vI x_.2)] [(0,E.tree eQ 1 g (List.map aC rows) [((0+Int.toNat i),1,ms 22 1 2 aA l.hi),((0+Int.toNat i),0,ms 21 1 2 aA l.lo)]),(23,E.tree eQ 4 1 (List.replicate 2 [T.sl []]) [(0,0,ms 21 1 2 aA l.lo),(1,0,ms 22 1 2 aA l.hi)]),(21,ar 65 1 2 aA x_.1),(22,ar 65 1 2 aA x.hi)] [0,21,22,23]) lS ?_))))
   rintro again2 ⟨y,k⟩ h
   refine rq hC [] [25] [(25,vB (decide (k<(x.lo.length:Int))))] [] [] (qs (aT h (fun c4 h=> ?_) (fun c4 h=> ?_)))
   ·refine qk (qs (qb ?_))
    obtain⟨x3,hx3,h⟩:=bd h
    refine rq hC [oQ (jO aA hx3),oX aA hx3,.z (.nat 24)] [6,7,26,27,28] [(6,vI k),(7,V.ref 24 0)] [(24,some (E.cells (aK x3)))] [(24,true)] ?_
    obtain⟨x4,hx4,x5,hx5,h⟩:=cV h
    exact rk hC [oV (hf x3 _ hx4),oQ (jO aA hx3),oX aA hx3,.z (.rows (List.map aA x5)),.z (.len 5 (List.map aA x5).length),.z (.len 22 (List.map aA x5).length),oQ (str aA hx5),oQ (gY aA hx5),oQ (gY aA hx5)] [5,22,29,30,31,32,33,34] [(5,ms 21 1 2 aA x5),(22,ms 21 1 2 aA x5)] [(21,some (ar 65 1 2 aA x5))] [] (rk hC [] [24,35] [(24,vI (wr (k+1)))] [] [] (lE h))
   ·exact cK (rk hC [] [18,36] [(18,vI (wr (0+1)))] [] [] (lE h))
 ·obtain rfl:=so h
  exact qw (A3 hC [.tre 21 eQ 3,.tre 22 eQ 3,.unf 0 22 (aC l) (List.map aC (rows.set i.toNat (⟨l.lo,x.hi⟩:Loop))),.unf 0 21 (aC (⟨l.lo,x.hi⟩:Loop)) (List.map aC rows')] [] [] [(21,none),(22,none),(0,some (E.tree eQ 1 g (List.map aC rows') []))] [] (a8 (m8 aA hs2) (Eq.refl eQ) (uD aC hl) (G0 aC (K2 hr (⟨l.lo,x.hi⟩:Loop)) rfl) (m8 aA hs1) (Eq.refl eQ) (uD aC (aDS hr (⟨l.lo,x.hi⟩:Loop))) (G0 aC (K1 hr (⟨l.lo,x.hi⟩:Loop)) rfl)) (by kernel_rfl)) (cK eW)
theorem rD(G:GS)(n:Nat)(a:Access)(changeF:FuncId)(changeC0:List T)(changeC1:List T)(change:Affine→Option Affine)(hchange: ∀(q0:Affine) r,change q0=some r→PQ G changeF [V.agg (aK q0),V.tp changeC0,V.tp changeC1] (V.agg (aK r))){r:Access}(h:gA n a change=some r):PQ G 131 [V.agg (cD a),V.fn changeF [V.tp changeC0,V.tp changeC1]] (V.agg (cD r)):=by
 unfold gA at h
 refine pq aN Tryz.func131 rfl fun w X hC=> ?_
 refine rq hC [.z (.b (true)),.z (.nat 20)] [2,4] [(2,V.tp (dO a)),(4,V.ref 20 0)] [(20,sc [vS [],V.t T.nilS])] [(20,true)] (rq hC [.z (.nat 21)] [5,8,9,10] [(5,V.ref 21 0)] [(21,sc [vS a.array,V.t T.nilS])] [(21,true)] (qs (rq hC [oN aA a.subs] (fr 11 4) [(12,vM aA a.subs),(13,vI (a.subs.length:Int)),(14,vI 0)] [] [] (qb (qw (lk hC [.growc 21 1 22 65] [] [] [(22,some (ar 65 1 2 aA [])),(21,sc [vS a.array,ms 22 1 2 aA []])] [(22,true)]) ?_)))))
 refine aZ (γ:=Nat) h (fun x_ g_=>aW [(1,V.fn changeF [V.tp changeC0,V.tp changeC1]),(4,V.ref 20 0),(5,V.ref 21 0),(12,vM aA a.subs),(13,vI (a.subs.length:Int)),(14,vI x_.2)] [(20,E.cells [vS [],V.t T.nilS]),(21,E.cells [vS a.array,ms 22 g_ 2 aA x_.1]),(22,ar 65 g_ 2 aA x_.1)] [20,21,22]) 1 (lS) ?_
 rintro again4 ⟨x1,x2⟩ g3 h
 refine rq hC [] [15] [(15,vB (decide (x2<(a.subs.length:Int))))] [] [] (qs (aT h (fun c1 h=> ?_) (fun c1 h=> ?_)))
 ·refine qk (qs (qb ?_))
  obtain⟨x5,hx5,h⟩:=bd h
  refine rq hC [oR aA hx5,.z (.nat 23)] [7,16,17] [(7,V.ref 23 0)] [(23,some (E.cells (aK x5)))] [(23,true)] ?_
  obtain⟨x6,hx6,x7,hx7,h⟩:=cV h
  exact dk hC bD [oV (hchange x5 _ hx6),.z (.int 0),oA (aO aA hx7),oQ (bP (r:=aA) 2 aU x1),oQ (bP (r:=aA) 2 aU [x6])] (fr 18 8) [] [(22,some (ar 65 (g3+1) 2 aA x7)),(21,sc [vS a.array,ms 22 (g3+1) 2 aA x7])] [] (rk hC [] [14,26] [(14,vI (wr (x2+1)))] [] [] ⟨(x7,wr (x2+1)),(g3+1),h,lS⟩)
 ·obtain rfl:=so h
  exact cK (rq hC [.z (.at 2),.z (.fz 22 [] [21])] [27] [] [(21,sc [vS a.array,vM aA x1]),(22,none),(20,sc [vS a.array,vM aA x1])] [] (qr eR))
theorem T9(G:GS): ∀(n:Nat) (e:Expr) (changeF:FuncId) (changeC0:List T) (changeC1:List T) (change:Affine→Option Affine) (hchange: ∀(q0:Affine) r,change q0=some r→PQ G changeF [V.agg (aK q0),V.tp changeC0,V.tp changeC1] (V.agg (aK r))) {r:Expr} (h:i_exprMap n e change=some r),PQ G 132 [V.agg (dB e),V.fn changeF [V.tp changeC0,V.tp changeC1]] (V.agg (dB r)):=by
 intro n
 induction n with
 |zero=>intro e changeF changeC0 changeC1 change hchange r h;rw [i_exprMap.eq_def] at h;cases h
 |succ n ih=>
  intro e changeF changeC0 changeC1 change hchange r h
  rw [i_exprMap.eq_def] at h;dsimp only at h
  refine pq aN Tryz.func132 rfl fun w X hC=> ?_
  refine rq hC [.z (.b (true)),.z (.nat 20)] [2,4] [(2,V.tp (fM e)),(4,V.ref 20 0)] [(20,sc [vI 0,vI 0,V.t T.nilS,vI 0,vS [],V.t T.nilS,V.t T.nilS])] [(20,true)] (rq hC [.z (.nat 21)] [5,8,9,10,11,12] [(5,V.ref 21 0)] [(21,sc [vI e.kind,vI e.num,V.t T.nilS,vI 0,vS [],V.t T.nilS,V.t T.nilS])] [(21,true)] (vj h (fun x_=>aW [(1,V.fn changeF [V.tp changeC0,V.tp changeC1]),(2,V.tp (fM e)),(4,V.ref 20 0),(5,V.ref 21 0)] [(20,E.cells [vI 0,vI 0,V.t T.nilS,vI 0,vS [],V.t T.nilS,V.t T.nilS]),(21,E.cells [vI e.kind,vI e.num,vM rI x_.1,vI x_.2.1,vS x_.2.2.1,vM aA x_.2.2.2,V.t T.nilS])] [20,21]) (fun j1 h=> ?_) ?_))
  ·
   refine rq hC [] [13,14] [(14,vI e.kind)] [] [] (qb (rq hC [] [15,16] [(15,vB (decide (e.kind=2)))] [] [] (aT h (fun c1 h=> ?_) (fun c1 h=> ?_))))
   ·obtain⟨x2,hx2,h⟩:=bd h
    exact rk hC [oV (hchange e.index _ hx2)] (fr 17 5) [] [(21,sc [vI e.kind,vI e.num,vM rI x2.coefs,vI x2.const,vS [],V.t T.nilS,V.t T.nilS])] [] (lE h)
   ·refine rq hC [] [22,23] [(22,vB (decide (e.kind=3)))] [] [] (aT h (fun c2 h=> ?_) (fun c2 h=> ?_))
    ·obtain⟨x3,hx3,h⟩:=bd h
     exact rk hC [oV (rD G n e.read changeF changeC0 changeC1 change hchange hx3)] (fr 24 5) [] [(21,sc [vI e.kind,vI e.num,V.t T.nilS,vI 0,vS x3.array,vM aA x3.subs,V.t T.nilS])] [] (lE h)
    ·exact qk (lE h)
  ·rintro⟨x4,x5,x6,x7⟩ h
   refine qs (rq hC [oN aJ e.kids] (fr 29 4) [(30,vM aJ e.kids),(31,vI (e.kids.length:Int)),(32,vI 0)] [] [] (qb (qw (lk hC [.growc 21 6 22 85] [] [] [(22,some (ar 85 1 7 aJ [])),(21,sc [vI e.kind,vI e.num,vM rI x4,vI x5,vS x6,vM aA x7,ms 22 1 7 aJ []])] [(22,true)]) (aZ (γ:=Nat) h (fun x_ g_=>aW [(1,V.fn changeF [V.tp changeC0,V.tp changeC1]),(4,V.ref 20 0),(5,V.ref 21 0),(30,vM aJ e.kids),(31,vI (e.kids.length:Int)),(32,vI x_.2)] [(20,E.cells [vI 0,vI 0,V.t T.nilS,vI 0,vS [],V.t T.nilS,V.t T.nilS]),(21,E.cells [vI e.kind,vI e.num,vM rI x4,vI x5,vS x6,vM aA x7,ms 22 g_ 7 aJ x_.1]),(22,ar 85 g_ 7 aJ x_.1)] [20,21,22]) 1 (lS) ?_))))
   rintro again11 ⟨x8,x9⟩ g10 h
   refine rq hC [] [33] [(33,vB (decide (x9<(e.kids.length:Int))))] [] [] (qs (aT h (fun c3 h=> ?_) (fun c3 h=> ?_)))
   ·refine qk (qs (qb ?_))
    obtain⟨x12,hx12,h⟩:=bd h
    refine rq hC [.z (.row (eM x12)),.z (.nat 23),oQ (fO aJ hx12 (dC x12))] [7,34,35] [(7,V.ref 23 0)] [(23,some (E.cells (dB x12)))] [(23,true)] ?_
    obtain⟨x13,hx13,x14,hx14,h⟩:=cV h
    exact dk hC bD [oV (ih x12 changeF changeC0 changeC1 change hchange hx13),.z (.int 2),.z (.rows (List.map aJ [x13])),oQ (sJ x13),oA (aO aJ hx14),oQ (bP (r:=aJ) 7 dW x8),oQ (bP (r:=aJ) 7 dW [x13])] (fr 36 8) [] [(22,some (ar 85 (g10+1) 7 aJ x14)),(21,sc [vI e.kind,vI e.num,vM rI x4,vI x5,vS x6,vM aA x7,ms 22 (g10+1) 7 aJ x14])] [] (rk hC [] [32,44] [(32,vI (wr (x9+1)))] [] [] ⟨(x14,wr (x9+1)),(g10+1),h,lS⟩)
   ·obtain rfl:=so h
    exact cK (rq hC [.z (.at 2),.z (.fz 22 [] [21])] [45] [] [(21,sc [vI e.kind,vI e.num,vM rI x4,vI x5,vS x6,vM aA x7,vM aJ x8]),(22,none),(20,sc [vI e.kind,vI e.num,vM rI x4,vI x5,vS x6,vM aA x7,vM aJ x8])] [] (qr eR))
theorem T8(G:GS)(n:Nat)(s:Stmt)(changeF:FuncId)(changeC0:List T)(changeC1:List T)(change:Affine→Option Affine)(hchange: ∀(q0:Affine) r,change q0=some r→PQ G changeF [V.agg (aK q0),V.tp changeC0,V.tp changeC1] (V.agg (aK r))){r:Stmt}(h:gU n s change=some r):PQ G 82 [V.agg (cR s),V.fn changeF [V.tp changeC0,V.tp changeC1]] (V.agg (cR r)):=by
 unfold gU at h
 refine pq aN Tryz.func82 rfl fun w X hC=> ?_
 refine rq hC [.z (.b (true)),.z (.nat 20)] [2,4] [(2,V.tp (oG s)),(4,V.ref 20 0)] [(20,sc [vS [],V.t T.nilS,vI 0,vI 0,V.t T.nilS,vI 0,vS [],V.t T.nilS,V.t T.nilS])] [(20,true)] (qs ?_)
 obtain⟨x1,hx1,x2,hx2,h⟩:=cV h
 obtain rfl:=so h
 exact dk hC bD [oV (rD G n s.write changeF changeC0 changeC1 change hchange hx1),oV (T9 G n s.value changeF changeC0 changeC1 change hchange hx2)] (fr 5 9) [] [(20,sc [vS x1.array,vM aA x1.subs,vI x2.kind,vI x2.num,vM rI x2.index.coefs,vI x2.index.const,vS x2.read.array,vM aA x2.read.subs,vM aJ x2.kids])] [] (qr eR)
theorem uP(G:GS)(n:Nat)(rows:List Part)(i:Int)(p:Part)(hp:ix rows i=some p)(g:Nat)(from_:Int)(fF:FuncId)(fC0:List T)(fC1:List T)(f:Affine→Option Affine)(hf: ∀(q0:Affine) r,f q0=some r→PQ G fF [V.agg (aK q0),V.tp fC0,V.tp fC1] (V.agg (aK r))){p':Part}{rows':List Part}(h:jQ n p from_ f=some p')(hr:dF rows i p'=some rows'):
  VQ G 35 [E.tree eQ 0 g (List.map aD rows) []] [V.eref 0 g 2 (0+Int.toNat i) 0,vI from_,V.fn fF [V.tp fC0,V.tp fC1]] (V.tup []) [E.tree eQ 0 g (List.map aD rows') []]:=by
 unfold jQ at h
 refine vq aN Tryz.func35 rfl fun w X β0 hC hg=> ?_
 refine qs (rq hC [] [6,9] [(6,vI from_)] [] [] (qw (A3 hC [.foc 0 21 (0+Int.toNat i) 0 (aD p),.foc 0 22 (0+Int.toNat i) 1 (aD p),.shd 22] [] [] [(0,some (E.tree eQ 0 g (List.map aD rows) [((0+Int.toNat i),1,ms 22 1 9 aG p.body),((0+Int.toNat i),0,ms 21 1 2 aC p.nest)])),(21,some (E.tree eQ 1 1 (List.map aC p.nest) [])),(22,some (ar 87 1 9 aG p.body))] [(21,true),(22,true)] (a2 (uD aD hp) (uD aD hp)) (by kernel_rfl)) (qb (jG h (fun x_=>aW [(0,V.eref 0 g 2 (0+Int.toNat i) 0),(2,V.fn fF [V.tp fC0,V.tp fC1]),(6,vI x_.2)] [(0,E.tree eQ 0 g (List.map aD rows) [((0+Int.toNat i),1,ms 22 1 9 aG p.body),((0+Int.toNat i),0,ms 21 1 2 aC p.nest)]),(21,E.tree eQ 1 1 (List.map aC x_.1) []),(22,ar 87 1 9 aG p.body)] [0,21,22]) lS ?_))))
 rintro again1 ⟨x,k⟩ h
 obtain⟨s1,hs1,h⟩:=bd h
 refine qs (rq hC [oX aD hp,.z (.nat x.length),oQ (aMZ aC hs1)] (fr 10 7) [(16,vB (decide (k<(x.length:Int))))] [] [] (aT h (fun c1 h=> ?_) (fun c1 h=> ?_)))
 ·refine qk (qs (qb ?_))
  obtain⟨x2,hx2,x3,hx3,x4,hx4,h⟩:=jI h
  exact rk hC [oX aD hp,oQ (aMy aC hs1 hx2),oC [21] [] (uQ G n x k x2 hx2 1 fF fC0 fC1 f hf hx3 hx4)] (fr 19 8) [] [(21,some (E.tree eQ 1 1 (List.map aC x4) []))] [(21,true)] (rk hC [] [6,17,18] [(6,vI (wr (k+1)))] [] [] (lE h))
 ·refine cK (rq hC [oX aD hp,oN aG p.body] (fr 27 6) [(30,ms 22 1 9 aG p.body),(31,vI (p.body.length:Int)),(32,vI 0)] [] [] (qb (jG h (fun x_=>aW [(0,V.eref 0 g 2 (0+Int.toNat i) 0),(2,V.fn fF [V.tp fC0,V.tp fC1]),(30,ms 22 1 9 aG x_.1),(31,vI (p.body.length:Int)),(32,vI x_.2)] [(0,E.tree eQ 0 g (List.map aD rows) [((0+Int.toNat i),1,ms 22 1 9 aG p.body),((0+Int.toNat i),0,ms 21 1 2 aC p.nest)]),(21,E.tree eQ 1 1 (List.map aC x) []),(22,ar 87 1 9 aG x_.1)] [0,21,22]) lS ?_)))
  rintro again2 ⟨y,j⟩ h
  obtain⟨s2,hs2,h⟩:=bd h
  refine rq hC [] [33] [(33,vB (decide (j<(p.body.length:Int))))] [] [] (qs (aT h (fun c2 h=> ?_) (fun c2 h=> ?_)))
  ·refine qk (qs (qb ?_))
   obtain⟨x6,hx6,h⟩:=bd h
   refine rq hC [oQ (jO aG hx6),oX aG hx6,.z (.nat 24)] [7,8,34,35,36] [(7,vI j),(8,V.ref 24 0)] [(24,some (E.cells (cR x6)))] [(24,true)] ?_
   obtain⟨x7,hx7,x8,hx8,h⟩:=cV h
   exact dk hC bD [oX aD hp,oV (T8 G n x6 fF fC0 fC1 f hf hx7),oQ (aMy aG hs2 hx6),oX aG hx6,.z (.rows (List.map aG x8)),oQ (str aG hx8)] (fr 37 9) [] [(22,some (ar 87 1 9 aG x8))] [] (qw (A3 hC [.len 30 (List.map aG x8).length] [30] [(30,ms 22 1 9 aG x8)] [] [] (a1 (gY aG hx8)) (by kernel_rfl)) (rk hC [] [32,46] [(32,vI (wr (j+1)))] [] [] (lE h)))
  ·obtain rfl:=so h
   exact qw (A3 hC [.tre 22 eQ 2,.unf 0 22 (aD p) (List.map aD (rows.set i.toNat (⟨p.nest,y⟩:Part))),.unf 0 21 (aD (⟨p.nest,y⟩:Part)) (List.map aD rows')] [] [] [(22,none),(21,none),(0,some (E.tree eQ 0 g (List.map aD rows') []))] [] (a8 (m8 aG hs2) (Eq.refl eQ) (uD aD hp) (G0 aD (K2 hr (⟨p.nest,y⟩:Part)) rfl) (m8 aC hs1) (Eq.refl eQ) (uD aD (aDS hr (⟨p.nest,y⟩:Part))) (G0 aD (K1 hr (⟨p.nest,y⟩:Part)) rfl)) (by kernel_rfl)) (cK eW)
theorem sZ{a}{r}(h:cY n a=some r):VQ G 65 [] [V.agg (aK a)] (V.agg [ms 0 1 1 rI r.coefs,vI r.const]) [ar 3 1 1 rI r.coefs]:=by
 unfold cY at h
 refine vq aN Tryz.func65 rfl fun w X β0 hC hg=> ?_
 refine rq hC [.z (.b (true)),.z (.nat 20)] [1,2] [(1,V.tp (aR a)),(2,V.ref 20 0)] [(20,sc [V.t T.nilS,vI 0])] [(20,true)] (qs ?_)
 obtain⟨x1,hx1,h⟩:=bd h
 obtain rfl:=so h
 exact dk hC bD [oC [] [21] (G.clone a.coefs hx1)] (fr 3 6) [] [(21,some (ar 3 1 1 rI x1)),(20,sc [ms 21 1 1 rI x1,vI a.const])] [(21,true)] (qw (lk hC [.rn 21 0 [] [20]] [] [] [(20,sc [ms 0 1 1 rI x1,vI a.const]),(21,none),(0,some (ar 3 1 1 rI x1))] [(0,true)]) (qr eW))
theorem wG(G:GS)(n:Nat)(a:Affine){r:Affine}(h:cY n a=some r):PQ G 65 [V.agg (aK a)] (V.agg (aK r)):=by
 unfold cY at h
 refine pq aN Tryz.func65 rfl fun w X hC=> ?_
 refine rq hC [.z (.b (true)),.z (.nat 20)] [1,2] [(1,V.tp (aR a)),(2,V.ref 20 0)] [(20,sc [V.t T.nilS,vI 0])] [(20,true)] (qs ?_)
 obtain⟨x1,hx1,h⟩:=bd h
 obtain rfl:=so h
 exact dk hC bD [oC [] [21] (G.clone a.coefs hx1)] (fr 3 6) [] [(21,some (ar 3 1 1 rI x1)),(20,sc [ms 21 1 1 rI x1,vI a.const])] [(21,true)] (qw (lk hC [.fz 21 [] [20]] [] [] [(20,sc [vM rI x1,vI a.const]),(21,none)] []) (qr eR))
theorem aFB{a}{k}{b}{r}(h:aAd n a k b=some r):VQ G 32 [] [V.agg (aK a),vI k,V.agg (aK b)] (V.agg [ms 0 1 1 rI r.coefs,vI r.const]) [ar 3 1 1 rI r.coefs]:=by
 unfold aAd at h
 refine vq aN Tryz.func32 rfl fun w X β0 hC hg=> ?_
 refine rq hC [.z (.b (true)),.z (.b (true)),.z (.nat 20)] [3,5,6] [(3,V.tp (aR a)),(5,V.tp (aR b)),(6,V.ref 20 0)] [(20,sc [V.t T.nilS,vI 0])] [(20,true)] ?_
 obtain⟨x1,hx1,h⟩:=bd h
 refine rq hC [oC [] [21] (sZ G hx1),.z (.nat 22)] [7,10,11] [(7,V.ref 22 0)] [(21,some (ar 3 1 1 rI x1.coefs)),(22,sc [ms 21 1 1 rI x1.coefs,vI x1.const])] [(21,true),(22,true)] (qs (rq hC [oN rI b.coefs] (fr 12 4) [(13,vM rI b.coefs),(14,vI (b.coefs.length:Int)),(15,vI 0)] [] [] (qb (aZ (γ:=Nat) h (fun x_ g_=>aW [(1,vI k),(5,V.tp (aR b)),(6,V.ref 20 0),(7,V.ref 22 0),(13,vM rI b.coefs),(14,vI (b.coefs.length:Int)),(15,vI x_.2)] [(20,E.cells [V.t T.nilS,vI 0]),(21,ar 3 g_ 1 rI x_.1),(22,E.cells [ms 21 g_ 1 rI x_.1,vI x1.const])] [20,21,22]) 1 (lS) ?_))))
 rintro again5 ⟨x2,x3⟩ g4 h
 refine rq hC [] [16] [(16,vB (decide (x3<(b.coefs.length:Int))))] [] [] (qs (aT h (fun c1 h=> ?_) (fun c1 h=> ?_)))
 ·refine qk (qs (qb ?_))
  obtain⟨x6,hx6,h⟩:=bd h
  refine rq hC [oR rI hx6] [8,9,17,18,19] [(8,vI x3),(9,vI x6)] [] [] ?_
  obtain⟨x7,hx7,x8,hx8,h⟩:=cV h
  exact rk hC [oQ (jO rI hx7),oX rI hx7,oQ (jO rI hx7),oX rI hx7,.z (.rows (List.map rI x8)),.z (.lenc 22 0 (List.map rI x8).length),oQ (str rI hx8),oQ (gY rI hx8)] (fr 20 10) [] [(21,some (ar 3 g4 1 rI x8)),(22,sc [ms 21 g4 1 rI x8,vI x1.const])] [] (rk hC [] [15,30] [(15,vI (wr (x3+1)))] [] [] ⟨(x8,wr (x3+1)),g4,h,lS⟩)
 ·obtain rfl:=so h
  exact cK (rq hC [] (fr 31 8) [] [(22,sc [ms 21 g4 1 rI x2,vI (wr (x1.const+(wr (k*b.const))))])] [] (rq hC [] [39] [] [(20,sc [ms 21 g4 1 rI x2,vI (wr (x1.const+(wr (k*b.const))))])] [] (qw (lk hC [.rn 21 0 [] [20,22]] [] [] [(20,sc [ms 0 1 1 rI x2,vI (wr (x1.const+(wr (k*b.const))))]),(22,sc [ms 0 1 1 rI x2,vI (wr (x1.const+(wr (k*b.const))))]),(21,none),(0,some (ar 3 1 1 rI x2))] [(0,true)]) (qr eW))))
theorem aGs{a}{v}{b}{r}(h:yO n a v b=some r):VQ G 37 [] [V.agg (aK a),vI v,V.agg (aK b)] (V.agg [ms 0 1 1 rI r.coefs,vI r.const]) [ar 3 1 1 rI r.coefs]:=by
 unfold yO at h
 refine vq aN Tryz.func37 rfl fun w X β0 hC hg=> ?_
 refine rq hC [.z (.b (true)),.z (.b (true)),.z (.nat 20)] [3,5,6] [(3,V.tp (aR a)),(5,V.tp (aR b)),(6,V.ref 20 0)] [(20,sc [V.t T.nilS,vI 0])] [(20,true)] ?_
 obtain⟨x1,hx1,h⟩:=bd h
 refine rq hC [oC [] [21] (sZ G hx1),.z (.nat 22)] [7,9,10] [(7,V.ref 22 0)] [(21,some (ar 3 1 1 rI x1.coefs)),(22,sc [ms 21 1 1 rI x1.coefs,vI x1.const])] [(21,true),(22,true)] ?_
 obtain⟨x2,hx2,h⟩:=bd h
 refine rq hC [oQ (jO rI hx2),oX rI hx2] [8,11,12,13,14,15] [(8,vI x2)] [] [] ?_
 obtain⟨x3,hx3,h⟩:=bd h
 refine rq hC [oQ (jO rI hx2),oX rI hx2,.z (.rows (List.map rI x3)),.z (.lenc 22 0 (List.map rI x3).length),oQ (str rI hx3),oQ (gY rI hx3)] (fr 16 4) [] [(21,some (ar 3 1 1 rI x3)),(22,sc [ms 21 1 1 rI x3,vI x1.const])] [] ?_
 obtain⟨x4,hx4,h⟩:=bd h
 obtain rfl:=so h
 exact rq hC [.z (.at 5),.z (.fz 21 [] [22]),oC [] [23] (aFB G hx4)] (fr 20 4) [] [(22,sc [vM rI x3,vI x1.const]),(21,none),(23,some (ar 3 1 1 rI x4.coefs)),(20,sc [ms 23 1 1 rI x4.coefs,vI x4.const])] [(23,true)] (qw (lk hC [.rn 23 0 [] [20]] [] [] [(20,sc [ms 0 1 1 rI x4.coefs,vI x4.const]),(23,none),(0,some (ar 3 1 1 rI x4.coefs))] [(0,true)]) (qr eW))
theorem G9(G:GS)(n:Nat)(a:Affine)(c0__a1:Int)(c1__a2:Affine){r:Affine}(h:fK n a c0__a1 c1__a2=some r):PQ G 36 [V.agg (aK a),V.tp [T.int .i64 c0__a1],V.tp (aR c1__a2)] (V.agg (aK r)):=by
 unfold fK at h
 refine pq aN Tryz.func36 rfl fun w X hC=> ?_
 refine rq hC [.z (.b (true)),.z (.nat 20)] [3,4] [(3,V.tp (aR a)),(4,V.ref 20 0)] [(20,sc [V.t T.nilS,vI 0])] [(20,true)] ?_
 obtain⟨x1,hx1,h⟩:=bd h
 obtain rfl:=so h
 exact rq hC [oC [] [21] (aGs G hx1)] (fr 5 4) [] [(21,some (ar 3 1 1 rI x1.coefs)),(20,sc [ms 21 1 1 rI x1.coefs,vI x1.const])] [(21,true)] (qw (lk hC [.fz 21 [] [20]] [] [] [(20,some (E.cells (aK x1))),(21,none)] []) (qr eR))
theorem F5{s}{r}(h:qY n s=some r):PQ G 176 [V.agg (cR s)] (V.agg (cR r)):=by
 unfold qY at h
 refine pq aN Tryz.func176 rfl fun w X hC=> ?_
 refine rq hC [.z (.b (true)),.z (.nat 20)] [1,2] [(1,V.tp (oG s)),(2,V.ref 20 0)] [(20,sc [vS [],V.t T.nilS,vI 0,vI 0,V.t T.nilS,vI 0,vS [],V.t T.nilS,V.t T.nilS])] [(20,true)] ?_
 obtain⟨x1,hx1,h⟩:=bd h
 obtain rfl:=so h
 exact rq hC [oV (aCV G n s 65 (fun q0=>cY n q0) (fun q0 r h=>wG G n q0 h) hx1)] [3,4] [] [(20,some (E.cells (cR x1)))] [] (qr eR)
theorem lM{list}{r}(h:fD n list=some r):VQ G 231 [] [vM aA list] (ms 0 1 2 aA r) [ar 65 1 2 aA r]:=by
 unfold fD at h
 refine vq aN Tryz.func231 rfl fun w X β0 hC hg=> ?_
 refine rq hC [] [2] [] [] [] (rq hC [] [3] [(3,V.t T.nilS)] [] [] (qs (rq hC [oN aA list] [6,7,8] [(6,vM aA list),(7,vI (list.length:Int)),(8,vI 0)] [] [] (qb (qw (lk hC [.grow 3 20 65] [3] [(3,ms 20 1 2 aA [])] [(20,some (ar 65 1 2 aA []))] [(20,true)]) ?_)))))
 refine aZ (γ:=Nat) h (fun x_ g_=>aW [(3,ms 20 g_ 2 aA x_.1),(6,vM aA list),(7,vI (list.length:Int)),(8,vI x_.2)] [(20,ar 65 g_ 2 aA x_.1)] [20]) 1 (lS) ?_
 rintro again4 ⟨x1,x2⟩ g3 h
 refine rq hC [] [9] [(9,vB (decide (x2<(list.length:Int))))] [] [] (qs (aT h (fun c1 h=> ?_) (fun c1 h=> ?_)))
 ·refine qk (qs (qb ?_))
  obtain⟨x5,hx5,h⟩:=bd h
  refine rq hC [oR aA hx5,.z (.nat 21)] [5,10,11] [(5,V.ref 21 0)] [(21,some (E.cells (aK x5)))] [(21,true)] ?_
  obtain⟨x6,hx6,x7,hx7,h⟩:=cV h
  exact rk hC [oV (wG G n x5 hx6),.z (.int 0),oA (aO aA hx7),oQ (bP (r:=aA) 2 aU x1),oQ (bP (r:=aA) 2 aU [x6])] [3,12,13,14,15,16] [(3,ms 20 (g3+1) 2 aA x7)] [(20,some (ar 65 (g3+1) 2 aA x7))] [] (rk hC [] [8,17] [(8,vI (wr (x2+1)))] [] [] ⟨(x7,wr (x2+1)),(g3+1),h,lS⟩)
 ·obtain rfl:=so h
  exact cK (rq hC [] [2,18] [(2,ms 20 g3 2 aA x1)] [] [] (qw (lk hC [.ren 2 20 0] [2] [(2,ms 0 1 2 aA x1)] [(0,some (ar 65 1 2 aA x1)),(20,none)] [(0,true)]) (qr eW)))
theorem aCX{nest}{r}(h:l5 n nest=some r):VQ G 175 [] [vM aC nest] (ms 0 1 2 aC r) [ar 58 1 2 aC r]:=by
 unfold l5 at h
 refine vq aN Tryz.func175 rfl fun w X β0 hC hg=> ?_
 refine rq hC [] [2] [] [] [] (rq hC [] [3] [(3,V.t T.nilS)] [] [] (qs (rq hC [oN aC nest] [6,7,8] [(6,vM aC nest),(7,vI (nest.length:Int)),(8,vI 0)] [] [] (qb (qw (lk hC [.grow 3 20 58] [3] [(3,ms 20 1 2 aC [])] [(20,some (ar 58 1 2 aC []))] [(20,true)]) ?_)))))
 refine aZ (γ:=Nat) h (fun x_ g_=>aW [(3,ms 20 g_ 2 aC x_.1),(6,vM aC nest),(7,vI (nest.length:Int)),(8,vI x_.2)] [(20,ar 58 g_ 2 aC x_.1)] [20]) 1 (lS) ?_
 rintro again4 ⟨x1,x2⟩ g3 h
 refine rq hC [] [9] [(9,vB (decide (x2<(nest.length:Int))))] [] [] (qs (aT h (fun c1 h=> ?_) (fun c1 h=> ?_)))
 ·refine qk (qs (qb ?_))
  obtain⟨x5,hx5,h⟩:=bd h
  refine rq hC [oR aC hx5,.z (.nat 21)] [5,10,11] [(5,V.ref 21 0)] [(21,some (E.cells (kN x5)))] [(21,true)] ?_
  obtain⟨x6,hx6,x7,hx7,x8,hx8,h⟩:=jI h
  exact dk hC bD [oC [] [22] (lM G hx6),oC [] [23] (lM G hx7),.z (.at 4),.z (.fz 22 [15] []),.z (.at 4),.z (.fz 23 [18] []),.z (.int 0),oA (aO aC hx8),oQ (bP (r:=aC) 2 b9 x1),oQ (bP (r:=aC) 2 b9 [(⟨x6,x7⟩:Loop)])] [3,12,13,14,15,16,17,18,19,20,21] [(3,ms 20 (g3+1) 2 aC x8)] [(22,none),(23,none),(20,some (ar 58 (g3+1) 2 aC x8))] [(22,true),(23,true)] (rk hC [] [8,22] [(8,vI (wr (x2+1)))] [] [] ⟨(x8,wr (x2+1)),(g3+1),h,lS⟩)
 ·obtain rfl:=so h
  exact cK (rq hC [] [2,23] [(2,ms 20 g3 2 aC x1)] [] [] (qw (lk hC [.ren 2 20 0] [2] [(2,ms 0 1 2 aC x1)] [(0,some (ar 58 1 2 aC x1)),(20,none)] [(0,true)]) (qr eW)))
theorem aCW{p}{r}(h:kJ n p=some r):VQ G 130 [] [V.agg (lO p)] (V.agg [ms 0 1 2 aC r.nest,ms 1 1 9 aG r.body]) [ar 58 1 2 aC r.nest,ar 87 1 9 aG r.body]:=by
 unfold kJ at h
 refine vq aN Tryz.func130 rfl fun w X β0 hC hg=> ?_
 refine rq hC [.z (.b (true)),.z (.nat 20)] [1,2] [(1,V.tp (kF p)),(2,V.ref 20 0)] [(20,sc [V.t T.nilS,V.t T.nilS])] [(20,true)] ?_
 obtain⟨x1,hx1,h⟩:=bd h
 refine rq hC [oC [] [21] (aCX G hx1),.z (.nat 22)] [3,6,7,8,9] [(3,V.ref 22 0)] [(21,some (ar 58 1 2 aC x1)),(22,sc [ms 21 1 2 aC x1,V.t T.nilS])] [(21,true),(22,true)] (qs (rq hC [oN aG p.body] (fr 10 4) [(11,vM aG p.body),(12,vI (p.body.length:Int)),(13,vI 0)] [] [] (qb (qw (lk hC [.growc 22 1 23 87] [] [] [(23,some (ar 87 1 9 aG [])),(22,sc [ms 21 1 2 aC x1,ms 23 1 9 aG []])] [(23,true)]) (aZ (γ:=Nat) h (fun x_ g_=>aW [(2,V.ref 20 0),(3,V.ref 22 0),(11,vM aG p.body),(12,vI (p.body.length:Int)),(13,vI x_.2)] [(20,E.cells [V.t T.nilS,V.t T.nilS]),(21,ar 58 1 2 aC x1),(22,E.cells [ms 21 1 2 aC x1,ms 23 g_ 9 aG x_.1]),(23,ar 87 g_ 9 aG x_.1)] [20,21,22,23]) 1 (lS) ?_)))))
 rintro again5 ⟨x2,x3⟩ g4 h
 refine rq hC [] [14] [(14,vB (decide (x3<(p.body.length:Int))))] [] [] (qs (aT h (fun c1 h=> ?_) (fun c1 h=> ?_)))
 ·refine qk (qs (qb ?_))
  obtain⟨x6,hx6,h⟩:=bd h
  refine rq hC [oR aG hx6,.z (.nat 24)] [5,15,16] [(5,V.ref 24 0)] [(24,some (E.cells (cR x6)))] [(24,true)] ?_
  obtain⟨x7,hx7,x8,hx8,h⟩:=cV h
  exact dk hC bD [oV (F5 G hx7),.z (.int 0),oA (aO aG hx8),oQ (bP (r:=aG) 9 dV x2),oQ (bP (r:=aG) 9 dV [x7])] (fr 17 7) [] [(23,some (ar 87 (g4+1) 9 aG x8)),(22,sc [ms 21 1 2 aC x1,ms 23 (g4+1) 9 aG x8])] [] (rk hC [] [13,24] [(13,vI (wr (x3+1)))] [] [] ⟨(x8,wr (x3+1)),(g4+1),h,lS⟩)
 ·obtain rfl:=so h
  exact cK (rq hC [] [25] [] [(20,sc [ms 21 1 2 aC x1,ms 23 g4 9 aG x2])] [] (qw (lk hC [.rn 21 0 [] [20,22]] [] [] [(20,sc [ms 0 1 2 aC x1,ms 23 g4 9 aG x2]),(22,sc [ms 0 1 2 aC x1,ms 23 g4 9 aG x2]),(21,none),(0,some (ar 58 1 2 aC x1))] [(0,true)]) (qw (lk hC [.rn 23 1 [] [20,22]] [] [] [(20,sc [ms 0 1 2 aC x1,ms 1 1 9 aG x2]),(22,sc [ms 0 1 2 aC x1,ms 1 1 9 aG x2]),(23,none),(1,some (ar 87 1 9 aG x2))] [(1,true)]) (qr eW))))
theorem H1{p}{r}(h:eA n p=some r):VQ G 81 [] [V.agg (bJ p)] (V.agg [ms 0 1 2 aI r.arrays,ms 1 1 2 aD r.parts]) [ar 77 1 2 aI r.arrays,ar 62 1 2 aD r.parts]:=by
 unfold eA at h
 refine vq aN Tryz.func81 rfl fun w X β0 hC hg=> ?_
 refine rq hC [.z (.b (true)),.z (.nat 20)] [1,2] [(1,V.tp (cF p)),(2,V.ref 20 0)] [(20,sc [V.t T.nilS,V.t T.nilS])] [(20,true)] (rq hC [.z (.nat 21)] [3] [(3,V.ref 21 0)] [(21,sc [V.t T.nilS,V.t T.nilS])] [(21,true)] (qs (rq hC [oN aI p.arrays] (fr 8 4) [(9,vM aI p.arrays),(10,vI (p.arrays.length:Int)),(11,vI 0)] [] [] (qb (qw (lk hC [.growc 21 0 22 77] [] [] [(22,some (ar 77 1 2 aI [])),(21,sc [ms 22 1 2 aI [],V.t T.nilS])] [(22,true)]) ?_)))))
 refine aZ (γ:=Nat) h (fun x_ g_=>aW [(1,V.tp (cF p)),(2,V.ref 20 0),(3,V.ref 21 0),(9,vM aI p.arrays),(10,vI (p.arrays.length:Int)),(11,vI x_.2)] [(20,E.cells [V.t T.nilS,V.t T.nilS]),(21,E.cells [ms 22 g_ 2 aI x_.1,V.t T.nilS]),(22,ar 77 g_ 2 aI x_.1)] [20,21,22]) 1 (lS) ?_
 rintro again4 ⟨x1,x2⟩ g3 h
 refine rq hC [] [12] [(12,vB (decide (x2<(p.arrays.length:Int))))] [] [] (qs (aT h (fun c1 h=> ?_) (fun c1 h=> ?_)))
 ·refine qk (qs (qb ?_))
  obtain⟨x5,hx5,h⟩:=bd h
  refine rq hC [oR aI hx5,.z (.nat 23)] [5,13,14] [(5,V.ref 23 0)] [(23,sc [vS x5.name,vM rI x5.dims])] [(23,true)] ?_
  obtain⟨x6,hx6,x7,hx7,h⟩:=cV h
  exact dk hC bD [oC [] [24] (G.clone x5.dims hx6),.z (.at 5),.z (.fz 24 [21] []),.z (.int 0),oA (aO aI hx7),oQ (bP (r:=aI) 2 gL x1),oQ (bP (r:=aI) 2 gL [(⟨x5.name,x6⟩:Arr)])] (fr 15 11) [] [(24,none),(22,some (ar 77 (g3+1) 2 aI x7)),(21,sc [ms 22 (g3+1) 2 aI x7,V.t T.nilS])] [(24,true)] (rk hC [] [11,26] [(11,vI (wr (x2+1)))] [] [] ⟨(x7,wr (x2+1)),(g3+1),h,lS⟩)
 ·refine cK (qs (rq hC [oN aD p.parts] (fr 27 4) [(28,vM aD p.parts),(29,vI (p.parts.length:Int)),(30,vI 0)] [] [] (qb (qw (lk hC [.growc 21 1 23 62] [] [] [(23,some (ar 62 1 2 aD [])),(21,sc [ms 22 g3 2 aI x1,ms 23 1 2 aD []])] [(23,true)]) (aZ (γ:=Nat) h (fun x_ g_=>aW [(2,V.ref 20 0),(3,V.ref 21 0),(28,vM aD p.parts),(29,vI (p.parts.length:Int)),(30,vI x_.2)] [(20,E.cells [V.t T.nilS,V.t T.nilS]),(21,E.cells [ms 22 g3 2 aI x1,ms 23 g_ 2 aD x_.1]),(22,ar 77 g3 2 aI x1),(23,ar 62 g_ 2 aD x_.1)] [20,21,22,23]) 1 (lS) ?_)))))
  rintro again11 ⟨x8,x9⟩ g10 h
  refine rq hC [] [31] [(31,vB (decide (x9<(p.parts.length:Int))))] [] [] (qs (aT h (fun c2 h=> ?_) (fun c2 h=> ?_)))
  ·refine qk (qs (qb ?_))
   obtain⟨x12,hx12,h⟩:=bd h
   refine rq hC [oR aD hx12,.z (.nat 24)] [7,32,33] [(7,V.ref 24 0)] [(24,some (E.cells (lO x12)))] [(24,true)] ?_
   obtain⟨x13,hx13,x14,hx14,h⟩:=cV h
   exact dk hC bD [oC [] [25,26] (aCW G hx13),.z (.at 4),.z (.fz 25 [37] []),.z (.at 4),.z (.fz 26 [37] []),.z (.int 0),oA (aO aD hx14),oQ (bP (r:=aD) 2 b8 x8),oQ (bP (r:=aD) 2 b8 [x13])] (fr 34 7) [] [(25,none),(26,none),(23,some (ar 62 (g10+1) 2 aD x14)),(21,sc [ms 22 g3 2 aI x1,ms 23 (g10+1) 2 aD x14])] [(25,true),(26,true)] (rk hC [] [30,41] [(30,vI (wr (x9+1)))] [] [] ⟨(x14,wr (x9+1)),(g10+1),h,lS⟩)
  ·obtain rfl:=so h
   exact cK (rq hC [] [42] [] [(20,sc [ms 22 g3 2 aI x1,ms 23 g10 2 aD x8])] [] (qw (lk hC [.rn 22 0 [] [20,21]] [] [] [(20,sc [ms 0 1 2 aI x1,ms 23 g10 2 aD x8]),(21,sc [ms 0 1 2 aI x1,ms 23 g10 2 aD x8]),(22,none),(0,some (ar 77 1 2 aI x1))] [(0,true)]) (qw (lk hC [.rn 23 1 [] [20,21]] [] [] [(20,sc [ms 0 1 2 aI x1,ms 1 1 2 aD x8]),(21,sc [ms 0 1 2 aI x1,ms 1 1 2 aD x8]),(23,none),(1,some (ar 62 1 2 aD x8))] [(1,true)]) (qr eW))))
theorem W7{nest}{r}(h:l5 n nest=some r):VQ G 175 [] [vM aC nest] (ms 0 1 2 aC r) [E.tree eQ 1 1 (List.map aC r) []]:=by
 unfold l5 at h
 refine vq aN Tryz.func175 rfl fun w X β0 hC hg=> ?_
 refine rq hC [] [2] [] [] [] (rq hC [] [3] [(3,V.t T.nilS)] [] [] (qs (rq hC [oN aC nest] [6,7,8] [(6,vM aC nest),(7,vI (nest.length:Int)),(8,vI 0)] [] [] (qb (qw (lk hC [.grow 3 20 58,.tre 20 eQ 1] [3] [(3,ms 20 1 2 aC [])] [(20,some (E.tree eQ 1 1 (List.map aC []) []))] [(20,true)]) ?_)))))
 refine aZ (γ:=Nat) h (fun x_ g_=>aW [(3,ms 20 g_ 2 aC x_.1),(6,vM aC nest),(7,vI (nest.length:Int)),(8,vI x_.2)] [(20,E.tree eQ 1 g_ (List.map aC x_.1) [])] [20]) 1 (lS) ?_
 rintro again4 ⟨x1,x2⟩ g3 h
 refine rq hC [] [9] [(9,vB (decide (x2<(nest.length:Int))))] [] [] (qs (aT h (fun c1 h=> ?_) (fun c1 h=> ?_)))
 ·refine qk (qs (qb ?_))
  obtain⟨x5,hx5,h⟩:=bd h
  refine rq hC [oR aC hx5,.z (.nat 21)] [5,10,11] [(5,V.ref 21 0)] [(21,some (E.cells (kN x5)))] [(21,true)] ?_
  obtain⟨x6,hx6,x7,hx7,x8,hx8,h⟩:=jI h
  exact dk hC bD [oC [] [22] (lM G hx6),oC [] [23] (lM G hx7),.z (.lt 24 eQ 1),.z (.rows (List.map aC (x1++[(⟨[],[]⟩:Loop)]))),oQ (Eq.refl (ndOf eQ 1)),oQ (aIG aC (⟨[],[]⟩:Loop) hx8),oQ (bP (r:=aC) 2 b9 x1),oQ (bP (r:=aC) 2 b9 [(⟨[],[]⟩:Loop)])] [3,12,13,14,15,16,17,18,19,20,21] [(3,ms 20 (g3+1) 2 aC (x1++[(⟨[],[]⟩:Loop)]))] [(22,some (ar 65 1 2 aA x6)),(23,some (ar 65 1 2 aA x7)),(24,some (E.tree eQ 1 1 (List.map aC [(⟨[],[]⟩:Loop)]) [(0,0,ms 22 1 2 aA x6),(0,1,ms 23 1 2 aA x7)])),(20,some (E.tree eQ 1 (g3+1) (List.map aC (x1++[(⟨[],[]⟩:Loop)])) (o9 (List.map aC x1).length [(0,0,ms 22 1 2 aA x6),(0,1,ms 23 1 2 aA x7)])))] [(22,true),(23,true),(24,true)] (qw (A3 hC [.tre 22 eQ 3,.unf 20 22 (aC (⟨[],[]⟩:Loop)) (List.map aC (x1++[(⟨x6,[]⟩:Loop)])),.tre 23 eQ 3,.unf 20 23 (aC (⟨x6,[]⟩:Loop)) (List.map aC x8),.len 3 (List.map aC x8).length] [3] [(3,ms 20 (g3+1) 2 aC x8)] [(22,none),(23,none),(20,some (E.tree eQ 1 (g3+1) (List.map aC x8) []))] [] (a9 (Eq.refl (List.map aA x6).length) (Eq.refl eQ) (aAQ aC x1 (⟨[],[]⟩:Loop)) (aHd aC x1 (ph:=(⟨[],[]⟩:Loop)) (y:=(⟨x6,[]⟩:Loop)) rfl) (Eq.refl (List.map aA x7).length) (Eq.refl eQ) (aAQ aC x1 (⟨x6,[]⟩:Loop)) (aBY aC (ph:=(⟨x6,[]⟩:Loop)) hx8 rfl) (aHC aC (⟨[],[]⟩:Loop) hx8)) (by kernel_rfl)) (rk hC [] [8,22] [(8,vI (wr (x2+1)))] [] [] ⟨(x8,wr (x2+1)),(g3+1),h,lS⟩))
 ·obtain rfl:=so h
  exact cK (rq hC [] [2,23] [(2,ms 20 g3 2 aC x1)] [] [] (qw (lk hC [.rn 20 0 [2,3] []] [2,3] [(2,ms 0 1 2 aC x1),(3,ms 0 1 2 aC x1)] [(20,none),(0,some (E.tree eQ 1 1 (List.map aC x1) []))] [(0,true)]) (qr eW)))
theorem W6{p}{r}(h:kJ n p=some r):VQ G 130 [] [V.agg (lO p)] (V.agg [ms 0 1 2 aC r.nest,ms 1 1 9 aG r.body]) [E.tree eQ 1 1 (List.map aC r.nest) [],ar 87 1 9 aG r.body]:=by
 unfold kJ at h
 refine vq aN Tryz.func130 rfl fun w X β0 hC hg=> ?_
 refine rq hC [.z (.b (true)),.z (.nat 20)] [1,2] [(1,V.tp (kF p)),(2,V.ref 20 0)] [(20,sc [V.t T.nilS,V.t T.nilS])] [(20,true)] ?_
 obtain⟨x1,hx1,h⟩:=bd h
 refine rq hC [oC [] [21] (W7 G hx1),.z (.nat 22)] [3,6,7,8,9] [(3,V.ref 22 0)] [(21,some (E.tree eQ 1 1 (List.map aC x1) [])),(22,sc [ms 21 1 2 aC x1,V.t T.nilS])] [(21,true),(22,true)] (qs (rq hC [oN aG p.body] (fr 10 4) [(11,vM aG p.body),(12,vI (p.body.length:Int)),(13,vI 0)] [] [] (qb (qw (lk hC [.growc 22 1 23 87] [] [] [(23,some (ar 87 1 9 aG [])),(22,sc [ms 21 1 2 aC x1,ms 23 1 9 aG []])] [(23,true)]) (aZ (γ:=Nat) h (fun x_ g_=>aW [(2,V.ref 20 0),(3,V.ref 22 0),(11,vM aG p.body),(12,vI (p.body.length:Int)),(13,vI x_.2)] [(20,E.cells [V.t T.nilS,V.t T.nilS]),(21,E.tree eQ 1 1 (List.map aC x1) []),(22,E.cells [ms 21 1 2 aC x1,ms 23 g_ 9 aG x_.1]),(23,ar 87 g_ 9 aG x_.1)] [20,21,22,23]) 1 (lS) ?_)))))
 rintro again5 ⟨x2,x3⟩ g4 h
 refine rq hC [] [14] [(14,vB (decide (x3<(p.body.length:Int))))] [] [] (qs (aT h (fun c1 h=> ?_) (fun c1 h=> ?_)))
 ·refine qk (qs (qb ?_))
  obtain⟨x6,hx6,h⟩:=bd h
  refine rq hC [oR aG hx6,.z (.nat 24)] [5,15,16] [(5,V.ref 24 0)] [(24,some (E.cells (cR x6)))] [(24,true)] ?_
  obtain⟨x7,hx7,x8,hx8,h⟩:=cV h
  exact dk hC bD [oV (F5 G hx7),.z (.int 0),oA (aO aG hx8),oQ (bP (r:=aG) 9 dV x2),oQ (bP (r:=aG) 9 dV [x7])] (fr 17 7) [] [(23,some (ar 87 (g4+1) 9 aG x8)),(22,sc [ms 21 1 2 aC x1,ms 23 (g4+1) 9 aG x8])] [] (rk hC [] [13,24] [(13,vI (wr (x3+1)))] [] [] ⟨(x8,wr (x3+1)),(g4+1),h,lS⟩)
 ·obtain rfl:=so h
  exact cK (rq hC [] [25] [] [(20,sc [ms 21 1 2 aC x1,ms 23 g4 9 aG x2])] [] (qw (lk hC [.rn 21 0 [] [20,22]] [] [] [(20,sc [ms 0 1 2 aC x1,ms 23 g4 9 aG x2]),(22,sc [ms 0 1 2 aC x1,ms 23 g4 9 aG x2]),(21,none),(0,some (E.tree eQ 1 1 (List.map aC x1) []))] [(0,true)]) (qw (lk hC [.rn 23 1 [] [20,22]] [] [] [(20,sc [ms 0 1 2 aC x1,ms 1 1 9 aG x2]),(22,sc [ms 0 1 2 aC x1,ms 1 1 9 aG x2]),(23,none),(1,some (ar 87 1 9 aG x2))] [(1,true)]) (qr eW))))
theorem zE{p}{r}(h:eA n p=some r):VQ G 81 [] [V.agg (bJ p)] (V.agg [ms 0 1 2 aI r.arrays,ms 1 1 2 aD r.parts]) [ar 77 1 2 aI r.arrays,E.tree eQ 0 1 (List.map aD r.parts) []]:=by
 unfold eA at h
 refine vq aN Tryz.func81 rfl fun w X β0 hC hg=> ?_
 refine rq hC [.z (.b (true)),.z (.nat 20)] [1,2] [(1,V.tp (cF p)),(2,V.ref 20 0)] [(20,sc [V.t T.nilS,V.t T.nilS])] [(20,true)] (rq hC [.z (.nat 21)] [3] [(3,V.ref 21 0)] [(21,sc [V.t T.nilS,V.t T.nilS])] [(21,true)] (qs (rq hC [oN aI p.arrays] (fr 8 4) [(9,vM aI p.arrays),(10,vI (p.arrays.length:Int)),(11,vI 0)] [] [] (qb (qw (lk hC [.growc 21 0 22 77] [] [] [(22,some (ar 77 1 2 aI [])),(21,sc [ms 22 1 2 aI [],V.t T.nilS])] [(22,true)]) ?_)))))
 refine aZ (γ:=Nat) h (fun x_ g_=>aW [(1,V.tp (cF p)),(2,V.ref 20 0),(3,V.ref 21 0),(9,vM aI p.arrays),(10,vI (p.arrays.length:Int)),(11,vI x_.2)] [(20,E.cells [V.t T.nilS,V.t T.nilS]),(21,E.cells [ms 22 g_ 2 aI x_.1,V.t T.nilS]),(22,ar 77 g_ 2 aI x_.1)] [20,21,22]) 1 (lS) ?_
 rintro again4 ⟨x1,x2⟩ g3 h
 refine rq hC [] [12] [(12,vB (decide (x2<(p.arrays.length:Int))))] [] [] (qs (aT h (fun c1 h=> ?_) (fun c1 h=> ?_)))
 ·refine qk (qs (qb ?_))
  obtain⟨x5,hx5,h⟩:=bd h
  refine rq hC [oR aI hx5,.z (.nat 23)] [5,13,14] [(5,V.ref 23 0)] [(23,sc [vS x5.name,vM rI x5.dims])] [(23,true)] ?_
  obtain⟨x6,hx6,x7,hx7,h⟩:=cV h
  exact dk hC bD [oC [] [24] (G.clone x5.dims hx6),.z (.at 5),.z (.fz 24 [21] []),.z (.int 0),oA (aO aI hx7),oQ (bP (r:=aI) 2 gL x1),oQ (bP (r:=aI) 2 gL [(⟨x5.name,x6⟩:Arr)])] (fr 15 11) [] [(24,none),(22,some (ar 77 (g3+1) 2 aI x7)),(21,sc [ms 22 (g3+1) 2 aI x7,V.t T.nilS])] [(24,true)] (rk hC [] [11,26] [(11,vI (wr (x2+1)))] [] [] ⟨(x7,wr (x2+1)),(g3+1),h,lS⟩)
 ·refine cK (qs (rq hC [oN aD p.parts] (fr 27 4) [(28,vM aD p.parts),(29,vI (p.parts.length:Int)),(30,vI 0)] [] [] (qb (qw (lk hC [.growc 21 1 23 62,.tre 23 eQ 0] [] [] [(23,some (E.tree eQ 0 1 (List.map aD []) [])),(21,sc [ms 22 g3 2 aI x1,ms 23 1 2 aD []])] [(23,true)]) (aZ (γ:=Nat) h (fun x_ g_=>aW [(2,V.ref 20 0),(3,V.ref 21 0),(28,vM aD p.parts),(29,vI (p.parts.length:Int)),(30,vI x_.2)] [(20,E.cells [V.t T.nilS,V.t T.nilS]),(21,E.cells [ms 22 g3 2 aI x1,ms 23 g_ 2 aD x_.1]),(22,ar 77 g3 2 aI x1),(23,E.tree eQ 0 g_ (List.map aD x_.1) [])] [20,21,22,23]) 1 (lS) ?_)))))
  rintro again11 ⟨x8,x9⟩ g10 h
  refine rq hC [] [31] [(31,vB (decide (x9<(p.parts.length:Int))))] [] [] (qs (aT h (fun c2 h=> ?_) (fun c2 h=> ?_)))
  ·refine qk (qs (qb ?_))
   obtain⟨x12,hx12,h⟩:=bd h
   refine rq hC [oR aD hx12,.z (.nat 24)] [7,32,33] [(7,V.ref 24 0)] [(24,some (E.cells (lO x12)))] [(24,true)] ?_
   obtain⟨x13,hx13,x14,hx14,h⟩:=cV h
   exact dk hC bD [oC [] [25,26] (W6 G hx13),.z (.lt 27 eQ 0),.z (.rows (List.map aD (x8++[(⟨[],[]⟩:Part)]))),oQ (Eq.refl (ndOf eQ 0)),oQ (aIG aD (⟨[],[]⟩:Part) hx14),oQ (bP (r:=aD) 2 b8 x8),oQ (bP (r:=aD) 2 b8 [(⟨[],[]⟩:Part)])] (fr 34 7) [] [(25,some (E.tree eQ 1 1 (List.map aC x13.nest) [])),(26,some (ar 87 1 9 aG x13.body)),(27,some (E.tree eQ 0 1 (List.map aD [(⟨[],[]⟩:Part)]) [(0,0,ms 25 1 2 aC x13.nest),(0,1,ms 26 1 9 aG x13.body)])),(23,some (E.tree eQ 0 (g10+1) (List.map aD (x8++[(⟨[],[]⟩:Part)])) (o9 (List.map aD x8).length [(0,0,ms 25 1 2 aC x13.nest),(0,1,ms 26 1 9 aG x13.body)]))),(21,sc [ms 22 g3 2 aI x1,ms 23 (g10+1) 2 aD (x8++[(⟨[],[]⟩:Part)])])] [(25,true),(26,true),(27,true)] (qw (A3 hC [.unf 23 25 (aD (⟨[],[]⟩:Part)) (List.map aD (x8++[(⟨x13.nest,[]⟩:Part)])),.tre 26 eQ 2,.unf 23 26 (aD (⟨x13.nest,[]⟩:Part)) (List.map aD x14),.lenc 21 1 (List.map aD x14).length] [] [] [(25,none),(26,none),(23,some (E.tree eQ 0 (g10+1) (List.map aD x14) [])),(21,sc [ms 22 g3 2 aI x1,ms 23 (g10+1) 2 aD x14])] [] (a9 (Eq.refl (List.map aC x13.nest).length) (Eq.refl eQ) (aAQ aD x8 (⟨[],[]⟩:Part)) (aHd aD x8 (ph:=(⟨[],[]⟩:Part)) (y:=(⟨x13.nest,[]⟩:Part)) rfl) (Eq.refl (List.map aG x13.body).length) (Eq.refl eQ) (aAQ aD x8 (⟨x13.nest,[]⟩:Part)) (aBY aD (ph:=(⟨x13.nest,[]⟩:Part)) hx14 rfl) (aHC aD (⟨[],[]⟩:Part) hx14)) (by kernel_rfl)) (rk hC [] [30,41] [(30,vI (wr (x9+1)))] [] [] ⟨(x14,wr (x9+1)),(g10+1),h,lS⟩))
  ·obtain rfl:=so h
   exact cK (rq hC [] [42] [] [(20,sc [ms 22 g3 2 aI x1,ms 23 g10 2 aD x8])] [] (qw (lk hC [.rn 22 0 [] [20,21]] [] [] [(20,sc [ms 0 1 2 aI x1,ms 23 g10 2 aD x8]),(21,sc [ms 0 1 2 aI x1,ms 23 g10 2 aD x8]),(22,none),(0,some (ar 77 1 2 aI x1))] [(0,true)]) (qw (lk hC [.rn 23 1 [] [20,21]] [] [] [(20,sc [ms 0 1 2 aI x1,ms 1 1 2 aD x8]),(21,sc [ms 0 1 2 aI x1,ms 1 1 2 aD x8]),(23,none),(1,some (E.tree eQ 0 1 (List.map aD x8) []))] [(1,true)]) (qr eW))))
theorem U5{a}{r}(h:nO n a=some r):PQ G 184 [V.agg [vS a.name,vM rI a.dims]] (vI r):=by
 unfold nO at h
 refine pq aN Tryz.func184 rfl fun w X hC=> ?_
 refine rq hC [.z (.b (true))] [1,2] [(1,V.tp [T.str a.name,T.sl (List.map rI a.dims)])] [] [] (rq hC [] [3] [(3,vI 1)] [] [] (qs (rq hC [oN rI a.dims] (fr 6 4) [(7,vM rI a.dims),(8,vI (a.dims.length:Int)),(9,vI 0)] [] [] (qb (jG h (fun x_=>aW [(3,vI x_.1),(7,vM rI a.dims),(8,vI (a.dims.length:Int)),(9,vI x_.2)] [] []) lS ?_)))))
 rintro again3 ⟨x1,x2⟩ h
 refine rq hC [] [10] [(10,vB (decide (x2<(a.dims.length:Int))))] [] [] (qs (aT h (fun c1 h=> ?_) (fun c1 h=> ?_)))
 ·refine qk (qs (qb ?_))
  obtain⟨x4,hx4,h⟩:=bd h
  exact rq hC [oR rI hx4] [5,11,12] [(5,vI x4)] [] [] (rk hC [] [3,13,14,15] [(3,vI (wr (x1*x4)))] [] [] (rk hC [] [9,16] [(9,vI (wr (x2+1)))] [] [] (lE h)))
 ·obtain rfl:=so h
  exact cK (rq hC [] [2,17] [(2,vI x1)] [] [] (qr eR))
theorem gP{a}{point}{r}(h:cQ n a point=some r):PQ G 185 [V.agg (aK a),vM rI point] (vI r):=by
 unfold cQ at h
 refine pq aN Tryz.func185 rfl fun w X hC=> ?_
 refine rq hC [.z (.b (true))] [2,4] [(2,V.tp (aR a))] [] [] (rq hC [] [5,8,9] [(5,vI a.const)] [] [] (qs (rq hC [oN rI point] [10,11,12] [(10,vM rI point),(11,vI (point.length:Int)),(12,vI 0)] [] [] (qb (jG h (fun x_=>aW [(2,V.tp (aR a)),(5,vI x_.1),(10,vM rI point),(11,vI (point.length:Int)),(12,vI x_.2)] [] []) lS ?_)))))
 rintro again3 ⟨x1,x2⟩ h
 refine rq hC [] [13] [(13,vB (decide (x2<(point.length:Int))))] [] [] (qs (aT h (fun c1 h=> ?_) (fun c1 h=> ?_)))
 ·refine qk (qs (qb ?_))
  obtain⟨x4,hx4,h⟩:=bd h
  refine rq hC [oR rI hx4] [6,7,14,15,16] [(6,vI x2),(7,vI x4)] [] [] ?_
  obtain⟨x5,hx5,h⟩:=bd h
  exact rk hC [oR rI hx5] [5,17,18,19,20,21,22,23,24,25] [(5,vI (wr (x1+(wr (x5*x4)))))] [] [] (rk hC [] [12,26] [(12,vI (wr (x2+1)))] [] [] (lE h))
 ·obtain rfl:=so h
  exact cK (rq hC [] [4,27] [(4,vI x1)] [] [] (qr eR))
theorem bK{n_a0}{low}{high}{r}(h:cH n n_a0 low high=some r):PQ G 62 [vI n_a0,vI low,vI high] (vB r):=by
 unfold cH at h
 refine pq aN Tryz.func62 rfl fun w X hC=> ?_
 refine rq hC [] [6] [] [] [] (vj h (fun x_=>aW [(6,vB x_)] [] []) (fun j1 h=> ?_) (fun x2 h=> ?_))
 ·
  refine aS h (fun c1 h=> ?_) (fun c1 h=> ?_)
  ·exact rk hC (rF 4 c1) (fr 6 9) [(6,vB false)] [] [] (lE h)
  ·exact rk hC (rT 4 c1) (fr 6 9) [(6,vB (decide (n_a0≤high)))] [] [] (lE h)
 ·obtain rfl:=so h
  exact qr eR
theorem fZ{p}{a}{point}{r}(h:dS n p a point=some r):PQ G 142 [V.agg (bJ p),V.agg (cD a),vM rI point] (vI r):=by
 unfold dS at h
 refine pq aN Tryz.func142 rfl fun w X hC=> ?_
 refine rq hC [.z (.b (true)),.z (.b (true))] [3,4,6] [(3,V.tp (cF p)),(4,V.tp (dO a))] [] [] (rq hC [] [7] [(7,vI 0)] [] [] (qs (rq hC [oN aI p.arrays] (fr 14 4) [(15,vM aI p.arrays),(16,vI (p.arrays.length:Int)),(17,vI 0)] [] [] (qb (jG h (fun x_=>aW [(2,vM rI point),(4,V.tp (dO a)),(7,vI x_.1),(15,vM aI p.arrays),(16,vI (p.arrays.length:Int)),(17,vI x_.2)] [] []) lS ?_)))))
 rintro again3 ⟨x1,x2⟩ h
 refine rq hC [] [18] [(18,vB (decide (x2<(p.arrays.length:Int))))] [] [] (qs (aT h (fun c1 h=> ?_) (fun c1 h=> ?_)))
 ·refine qk (qs (qb ?_))
  obtain⟨x4,hx4,h⟩:=bd h
  refine rq hC [oR aI hx4,.z (.nat 20)] [9,19,20] [(9,V.ref 20 0)] [(20,sc [vS x4.name,vM rI x4.dims])] [(20,true)] (qs (rq hC [] (fr 21 5) [(25,vB (!decide (x4.name=a.array)))] [] [] (aT h (fun c2 h=> ?_) (fun c2 h=> ?_))))
  ·obtain⟨x5,hx5,h⟩:=bd h
   exact rq hC [oV (U5 G hx5)] [7,26,27,28,29] [(7,vI (wr (x1+x5)))] [] [] (cK (rk hC [] [17,70] [(17,vI (wr (x2+1)))] [] [] (lE h)))
  ·refine qk (qs (rq hC [oN aA a.subs,oN rI x4.dims] (fr 30 7) [(36,vB (!decide ((a.subs.length:Int)=(x4.dims.length:Int))))] [] [] (aT h (fun c3 h=> ?_) (fun c3 h=> ?_))))
   ·obtain rfl:=so h
    exact rq hC [] [6] [(6,vI (-1))] [] [] (qr eR)
   ·refine qk (rq hC [] [10] [(10,vI 0)] [] [] (qs (rq hC [oN aA a.subs] (fr 37 4) [(38,vM aA a.subs),(39,vI (a.subs.length:Int)),(40,vI 0)] [] [] (qb (jG h (fun x_=>aW [(2,vM rI point),(7,vI x1),(9,V.ref 20 0),(10,vI x_.1),(38,vM aA a.subs),(39,vI (a.subs.length:Int)),(40,vI x_.2)] [(20,E.cells [vS x4.name,vM rI x4.dims])] [20]) lS ?_)))))
    rintro again8 ⟨x6,x7⟩ h
    refine rq hC [] [41] [(41,vB (decide (x7<(a.subs.length:Int))))] [] [] (qs (aT h (fun c4 h=> ?_) (fun c4 h=> ?_)))
    ·refine qk (qs (qb ?_))
     obtain⟨x9,hx9,h⟩:=bd h
     refine rq hC [oR aA hx9,.z (.nat 21)] [11,12,42,43,44] [(11,vI x7),(12,V.ref 21 0)] [(21,some (E.cells (aK x9)))] [(21,true)] ?_
     obtain⟨x10,hx10,h⟩:=bd h
     refine rq hC [oV (gP G hx10)] [13,45,46,47] [(13,vI x10)] [] [] (qs ?_)
     obtain⟨x11,hx11,x12,hx12,h⟩:=cV h
     refine rq hC [oR rI hx11,oV (bK G hx12)] (fr 48 9) [(56,vB (!x12))] [] [] (aT h (fun c5 h=> ?_) (fun c5 h=> ?_))
     ·obtain rfl:=so h
      exact rq hC [] [6] [(6,vI (-1))] [] [] (qr eR)
     ·exact qk (rk hC [oR rI hx11] [10,57,58,59,60,61,62,63,64,65] [(10,vI (wr ((wr (x6*x11))+x10)))] [] [] (rk hC [] [40,66] [(40,vI (wr (x7+1)))] [] [] (lE h)))
    ·obtain rfl:=so h
     exact cK (rq hC [] [6,67,68,69] [(6,vI (wr (x1+x6)))] [] [] (qr eR))
 ·obtain rfl:=so h
  exact cK (rq hC [] [6] [(6,vI (-1))] [] [] (qr eR))
end Go.Lift
