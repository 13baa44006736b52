/- The walks: the code computes what the plain functions say. -/
import Derived.Test.YtiplelpjhgnmoaaGreatZModels
import Derived.Test.YtiplelpjhgnmoaaGreatZWalks2
set_option maxRecDepth 10000
set_option linter.unusedVariables false
namespace Go.Lift
open Go Go.Proofs
variable (G:GS) {n:Nat}
theorem B1{l}{point}{r}(h:jK n l point=some r):PQ G 221 [V.agg (F6 l),vM rI point] (V.tup [vI r.1,vI r.2]):=by
 unfold jK at h
 refine pq aS Tryz.func221 rfl fun w X hC=> ?_
 refine rq hC [.z (.b (true))] [2,4,5] [(2,V.tp (w3 l))] [] [] (qs ?_)
 obtain⟨x1,hx1,x2,hx2,x3,hx3,h⟩:=kQ h
 obtain⟨x4,hx4,h⟩:=bd h
 refine dk hC bP [oR aB hx1,oV (eU G hx2),oR aB hx3,oV (eU G hx4)] [6,7,12,13,14,15,16,17,18,19,20,21,22,23] [(6,vI x2),(7,vI x4)] [] [] (qs (rq hC [oN aB l.lo] (fr 24 4) [(25,vM aB l.lo),(26,vI (l.lo.length:Int)),(27,vI 0)] [] [] (qb (kJ h (fun x_=>aZ [(1,vM rI point),(2,V.tp (w3 l)),(6,vI x_.1),(7,vI x4),(25,vM aB l.lo),(26,vI (l.lo.length:Int)),(27,vI x_.2)] [] []) lS ?_))))
 rintro again7 ⟨x5,x6⟩ h
 refine rq hC [] [28] [(28,vB (decide (x6<(l.lo.length:Int))))] [] [] (qs (aU h (fun c1 h=> ?_) (fun c1 h=> ?_)))
 ·refine qk (qs (qb ?_))
  obtain⟨x8,hx8,h⟩:=bd h
  refine rq hC [oR aB hx8,.z (.nat 20)] [9,29,30] [(9,V.ref 20 0)] [(20,some (E.cells (bC x8)))] [(20,true)] ?_
  obtain⟨x9,hx9,h⟩:=bd h
  exact rk hC [oV (eU G hx9)] [6,31,32,33,34,35] [(6,vI (max x5 x9))] [] [] (rk hC [] [27,36] [(27,vI (wr (x6+1)))] [] [] (lE h))
 ·refine dL (qs (rq hC [oN aB l.hi] (fr 37 4) [(38,vM aB l.hi),(39,vI (l.hi.length:Int)),(40,vI 0)] [] [] (qb (kJ h (fun x_=>aZ [(1,vM rI point),(6,vI x5),(7,vI x_.1),(38,vM aB l.hi),(39,vI (l.hi.length:Int)),(40,vI x_.2)] [] []) lS ?_))))
  rintro again12 ⟨x10,x11⟩ h
  refine rq hC [] [41] [(41,vB (decide (x11<(l.hi.length:Int))))] [] [] (qs (aU h (fun c2 h=> ?_) (fun c2 h=> ?_)))
  ·refine qk (qs (qb ?_))
   obtain⟨x13,hx13,h⟩:=bd h
   refine rq hC [oR aB hx13,.z (.nat 20)] [11,42,43] [(11,V.ref 20 0)] [(20,some (E.cells (bC x13)))] [(20,true)] ?_
   obtain⟨x14,hx14,h⟩:=bd h
   exact rk hC [oV (eU G hx14)] [7,44,45,46,47,48] [(7,vI (min x10 x14))] [] [] (rk hC [] [40,49] [(40,vI (wr (x11+1)))] [] [] (lE h))
  ·obtain rfl:=so h
   exact dL (rq hC [] [4,5,50,51] [(4,vI x5),(5,vI x10)] [] [] (qr eR))
theorem uV(G:GS): ∀(n:Nat) (w_a0:Walking) (w_a0G2:Nat) (point:List Int) {r:Bool×Walking} (h:i_walking_walk n w_a0 point=some r),VQ G 166 [E.cells [vM aD w_a0.nest,vI w_a0.steps,ms 1 w_a0G2 1 (rL rI) w_a0.out],ar 33 w_a0G2 1 (rL rI) w_a0.out] [V.ref 0 0,vM rI point] (vB r.1) [E.cells [vM aD r.2.nest,vI r.2.steps,ms 1 (w_a0G2+1) 1 (rL rI) r.2.out],ar 33 (w_a0G2+1) 1 (rL rI) r.2.out]:=by
 intro n
 induction n with
 |zero=>intro w_a0 w_a0G2 point r h;rw [i_walking_walk.eq_def] at h;cases h
 |succ n ih=>
  intro w_a0 w_a0G2 point r h
  rw [i_walking_walk.eq_def] at h;dsimp only at h
  refine vq aS Tryz.func166 rfl fun w X β0 hC hg=> ?_
  refine rq hC [] [4] [] [] [] (qs (rq hC [oN rI point,oN aD w_a0.nest] (fr 8 8) [(15,vB (decide ((point.length:Int)=(w_a0.nest.length:Int))))] [] [] (aU h (fun c1 h=> ?_) (fun c1 h=> ?_))))
  ·refine qs ?_
   obtain⟨x1,hx1,x2,hx2,h⟩:=d4 h
   obtain rfl:=so h
   exact dk hC bP [oC [] [20] (G.clone point hx1),.z (.at 5),.z (.fz 20 [22] []),.z (.int 0),oA (aM (rL rI) hx2),oQ (bZ (r:=(rL rI)) 1 (fun _=>rfl) w_a0.out),oQ (bZ (r:=(rL rI)) 1 (fun _=>rfl) [x1])] (fr 16 11) [] [(20,none),(1,some (ar 33 (w_a0G2+1) 1 (rL rI) x2)),(0,sc [vM aD w_a0.nest,vI w_a0.steps,ms 1 (w_a0G2+1) 1 (rL rI) x2])] [(20,true)] (rq hC [oN (rL rI) x2] [4,27,28,29,30,31,32] [(4,vB (decide ((x2.length:Int)≤120)))] [] [] (qw (cT 0 2 1 w_a0G2 (w_a0G2+1) 1 0 (List.map (rL rI) x2).length (e:= .arr 33 (w_a0G2+1) 1 (List.map (rL rI) x2)) (cs:=[vM aD w_a0.nest,vI w_a0.steps,ms 1 (w_a0G2+1) 1 (rL rI) x2]) rfl (by kernel_rfl) (by kernel_rfl) (by kernel_rfl) (by kernel_rfl) rfl rfl hg.2.1) (qr eW)))
  ·refine qk ?_
   obtain⟨x3,hx3,x4,hx4,h⟩:=d4 h
   refine rq hC [oN rI point,oR aD hx3,oV (B1 G hx4)] [5,6,33,34,35,36,37,38,39,40,41,42,43,44,45] [(5,vI x4.1),(6,vI x4.2)] [] [] (qs (rq hC [] [7,46] [(7,vI x4.1)] [] [] (qb (bM (γ:=Nat) h (fun x_ g_=>aZ [(0,V.ref 0 0),(1,vM rI point),(6,vI x4.2),(7,vI x_.2.2.2)] [(0,E.cells [vM aD x_.1,vI x_.2.1,ms 1 g_ 1 (rL rI) x_.2.2.1]),(1,ar 33 g_ 1 (rL rI) x_.2.2.1)] [0,1]) w_a0G2 (lS) ?_))))
   rintro again10 ⟨x5,x6,x7,x8⟩ g9 h
   refine qs (rq hC [] [47,48,49] [(49,vB (decide (x8<x4.2)))] [] [] (aU h (fun c2 h=> ?_) (fun c2 h=> ?_)))
   ·refine qk (qs (qb (rq hC [] (fr 52 7) [] [(0,sc [vM aD x5,vI (wr (x6+1)),ms 1 g9 1 (rL rI) x7])] [] ?_)))
    obtain⟨j11,hj11,h⟩:=yG h
    refine jM (γ:=Nat) (j:=j11) (r:=r) (fun x_ g_=>aZ [(0,V.ref 0 0),(1,vM rI point),(6,vI x4.2),(7,vI x8),(74,vB x_.2.2.2)] [(0,E.cells [vM aD x_.1,vI x_.2.1,ms 1 g_ 1 (rL rI) x_.2.2.1]),(1,ar 33 g_ 1 (rL rI) x_.2.2.1)] [0,1]) ?_ ?_
    ·
     refine aT h (fun c3 h=> ?_) (fun c3 h=> ?_)
     ·obtain⟨x12,hx12,x13,hx13,x14,hx14,h⟩:=kQ h
      exact rk hC (rF 3 c3++[oC [] [20] (G.clone point hx12),oF c3,oF c3,.z (.int 0),oF c3,oA (aM rI hx13),.z (.at 3),.z (.fz 20 [71] []),oQ (bZ (r:=rI) 1 (fun _=>rfl) x12),oQ (bZ (r:=rI) 1 (fun _=>rfl) [x8]),oF c3,oC [0,1] [] (ih (⟨x5,wr (x6+1),x7⟩:Walking) g9 x13 hx14),oF c3,oF c3]) (fr 59 16) [(74,vB (!x14.1))] [(20,none),(1,some (ar 33 (g9+1) 1 (rL rI) x14.2.out)),(0,sc [vM aD x14.2.nest,vI x14.2.steps,ms 1 (g9+1) 1 (rL rI) x14.2.out])] [(20,true),(0,true),(1,true)] ⟨(x14.2.nest,x14.2.steps,x14.2.out, !x14.1),(g9+1),h,lS⟩
     ·exact rk hC (rT 9 c3) (fr 59 16) [(74,vB true)] [] [] ⟨(x5,wr (x6+1),x7,true),g9,h,lS⟩
    ·rintro⟨x15,x16,x17,x18⟩ g19 h
     subst hj11
     refine aU h (fun c4 h=> ?_) (fun c4 h=> ?_)
     ·obtain rfl:=so h
      exact rq hC [] [4] [(4,vB false)] [] [] (qw (cT 0 2 1 w_a0G2 g19 1 0 (List.map (rL rI) x17).length (e:= .arr 33 g19 1 (List.map (rL rI) x17)) (cs:=[vM aD x15,vI x16,ms 1 g19 1 (rL rI) x17]) rfl (by kernel_rfl) (by kernel_rfl) (by kernel_rfl) (by kernel_rfl) rfl rfl hg.2.1) (qr eW))
     ·exact qk (rk hC [] [7,50,51] [(7,vI (wr (x8+1)))] [] [] ⟨(x15,x16,x17,wr (x8+1)),g19,h,lS⟩)
   ·obtain rfl:=so h
    exact dL (rq hC [] [4] [(4,vB true)] [] [] (qw (cT 0 2 1 w_a0G2 g9 1 0 (List.map (rL rI) x7).length (e:= .arr 33 g9 1 (List.map (rL rI) x7)) (cs:=[vM aD x5,vI x6,ms 1 g9 1 (rL rI) x7]) rfl (by kernel_rfl) (by kernel_rfl) (by kernel_rfl) (by kernel_rfl) rfl rfl hg.2.1) (qr eW)))
theorem zQ{nest}{r}(h:iA n nest=some r):VQ G 123 [] [vM aD nest] (V.tup [ms 0 1 1 (rL rI) r.1,vB r.2]) [ar 33 1 1 (rL rI) r.1]:=by
 unfold iA at h
 refine vq aS Tryz.func123 rfl fun w X β0 hC hg=> ?_
 refine rq hC [] [2,3] [] [] [] (qs ?_)
 obtain⟨x1,hx1,h⟩:=bd h
 refine rq hC [oV (B0 G hx1)] [5,6,7] [(7,vB (!x1))] [] [] (aU h (fun c1 h=> ?_) (fun c1 h=> ?_))
 ·obtain rfl:=so h
  exact rq hC [] [2,3] [(2,V.t T.nilS),(3,vB false)] [] [] (qw (lk hC [.grow 2 0 33] [2] [(2,ms 0 1 1 (rL rI) [])] [(0,some (ar 33 1 1 (rL rI) []))] [(0,true)]) (qr eW))
 ·refine qk (rq hC [.z (.nat 20)] [4,8,9,10] [(4,V.ref 20 0)] [(20,sc [vM aD nest,vI 0,V.t T.nilS])] [(20,true)] (qs ?_))
  obtain⟨x2,hx2,h⟩:=bd h
  refine rq hC [.z (.at 2),.z (.growc 20 2 21 33),oC [20,21] [] (uV G n (⟨nest,0,[]⟩:Walking) 1 [] hx2)] [11,12,13] [(13,vB (!x2.1))] [(21,some (ar 33 2 1 (rL rI) x2.2.out)),(20,sc [vM aD x2.2.nest,vI x2.2.steps,ms 21 2 1 (rL rI) x2.2.out])] [(21,true),(20,true),(21,true)] (aU h (fun c2 h=> ?_) (fun c2 h=> ?_))
  ·obtain rfl:=so h
   exact rq hC [] [2,3] [(2,V.t T.nilS),(3,vB false)] [] [] (qw (lk hC [.grow 2 0 33] [2] [(2,ms 0 1 1 (rL rI) [])] [(0,some (ar 33 1 1 (rL rI) []))] [(0,true)]) (qr eW))
  ·obtain rfl:=so h
   exact qk (rq hC [] [2,3,14,15,16,17] [(2,ms 21 2 1 (rL rI) x2.2.out),(3,vB true)] [] [] (qw (lk hC [.ren 2 21 0] [2] [(2,ms 0 1 1 (rL rI) x2.2.out)] [(0,some (ar 33 1 1 (rL rI) x2.2.out)),(21,none)] [(0,true)]) (qr eW)))
theorem zP(G:GS)(n:Nat)(s:Affine)(c0__a1:Int){r:Bool}(h:fQ n s c0__a1=some r):PQ G 222 [V.agg (bC s),V.tp [T.int .i64 c0__a1]] (vB r):=by
 unfold fQ at h
 refine pq aS Tryz.func222 rfl fun w X hC=> ?_
 refine rq hC [.z (.b (true))] [2,3] [(2,V.tp (bK s))] [] [] (vj h (fun x_=>aZ [(3,vB x_)] [] []) (fun j1 h=> ?_) (fun x4 h=> ?_))
 ·
  obtain⟨x2,hx2,h⟩:=bd h
  refine aT h (fun c1 h=> ?_) (fun c1 h=> ?_)
  ·obtain⟨x3,hx3,h⟩:=bd h
   exact dk hC bP ([oV (cX G hx2),oF c1,oF c1,oV (fT G hx3)]++rF 3 c1) (fr 3 10) [(3,vB (decide (c0__a1<x3)))] [] [] (lE h)
  ·exact dk hC bP ([oV (cX G hx2)]++rT 5 c1) (fr 3 10) [(3,vB true)] [] [] (lE h)
 ·obtain rfl:=so h
  exact qr eR
theorem kF{a}{depth}{r}(h:iT n a depth=some r):PQ G 168 [V.agg (dX a),vI depth] (vB r):=by
 unfold iT at h
 refine pq aS Tryz.func168 rfl fun w X hC=> ?_
 refine rq hC [.z (.b (true)),.z (.b (true))] [2,3,4] [(2,V.tp (d5 a)),(3,V.tp [T.int .i64 depth])] [] [] (vj h (fun x_=>aZ [(4,vB x_)] [] []) (fun j1 h=> ?_) (fun x5 h=> ?_))
 ·
  obtain⟨x2,hx2,h⟩:=bd h
  refine aT h (fun c1 h=> ?_) (fun c1 h=> ?_)
  ·exact rk hC ([oV (dV G hx2)]++rF 5 c1++sF 6) (fr 4 17) [(4,vB false)] [] [] (lE h)
  ·obtain⟨x3,hx3,h⟩:=bd h
   refine aT h (fun c2 h=> ?_) (fun c2 h=> ?_)
   ·exact rk hC ([oV (dV G hx2)]++rT 3 c1++[oN aB a.subs,oT c1,oV (bJ G hx3),oT c1]++rF 6 c2) (fr 4 17) [(4,vB false)] [] [] (lE h)
   ·obtain⟨x4,hx4,h⟩:=bd h
    exact rk hC ([oV (dV G hx2)]++rT 3 c1++[oN aB a.subs,oT c1,oV (bJ G hx3),oT c1]++rT 4 c2++[oV (fM G n a.subs 222 [T.int .i64 depth] (fun q0=>fQ n q0 depth) (fun q0 r h=>zP G n q0 depth h) hx4),oT c2,oT c2]) (fr 4 17) [(4,vB (!x4))] [] [] (lE h)
 ·obtain rfl:=so h
  exact qr eR
theorem fS{a}{r}(h:iR n a=some r):PQ G 224 [V.agg (bC a)] (vB r):=by
 unfold iR at h
 refine pq aS Tryz.func224 rfl fun w X hC=> ?_
 refine rq hC [.z (.b (true))] [1,2] [(1,V.tp (bK a))] [] [] (vj h (fun x_=>aZ [(2,vB x_)] [] []) (fun j1 h=> ?_) (fun x2 h=> ?_))
 ·
  refine aT h (fun c1 h=> ?_) (fun c1 h=> ?_)
  ·exact rk hC ([oN rI a.coefs]++rF 4 c1) (fr 2 10) [(2,vB false)] [] [] (lE h)
  ·exact rk hC ([oN rI a.coefs]++rT 4 c1) (fr 2 10) [(2,vB (decide (a.const=0)))] [] [] (lE h)
 ·obtain rfl:=so h
  exact qr eR
theorem kE{a}{r}(h:fI n a=some r):PQ G 225 [V.agg (dX a)] (vB r):=by
 unfold fI at h
 refine pq aS Tryz.func225 rfl fun w X hC=> ?_
 refine rq hC [.z (.b (true))] [1,2] [(1,V.tp (d5 a))] [] [] (vj h (fun x_=>aZ [(2,vB x_)] [] []) (fun j1 h=> ?_) (fun x2 h=> ?_))
 ·
  refine aT h (fun c1 h=> ?_) (fun c1 h=> ?_)
  ·exact rk hC (rF 5 c1) (fr 2 10) [(2,vB false)] [] [] (lE h)
  ·exact rk hC (rT 3 c1++[oN aB a.subs,oT c1,oT c1]) (fr 2 10) [(2,vB (decide ((a.subs.length:Int)=0)))] [] [] (lE h)
 ·obtain rfl:=so h
  exact qr eR
theorem T5{kind}{r}(h:yN n kind=some r):PQ G 226 [vI kind] (vB r):=by
 unfold yN at h
 refine pq aS Tryz.func226 rfl fun w X hC=> ?_
 refine rq hC [] [2] [] [] [] ?_
 obtain⟨x1,hx1,h⟩:=bd h
 obtain rfl:=so h
 exact rq hC [oV (bJ G hx1)] [2,3,4] [(2,vB x1)] [] [] (qr eR)
theorem K8(G:GS): ∀(n:Nat) (e:Expr) (depth:Int) (deep:Int) (count:Int) {r:Bool×Int} (h:i_exprScan n e depth deep count=some r),VQ G 169 [E.cells [vI count]] [V.agg (f0 e),vI depth,vI deep,V.ref 0 0] (vB r.1) [E.cells [vI r.2]]:=by
 intro n
 induction n with
 |zero=>intro e depth deep count r h;rw [i_exprScan.eq_def] at h;cases h
 |succ n ih=>
  intro e depth deep count r h
  rw [i_exprScan.eq_def] at h;dsimp only at h
  refine vq aS Tryz.func169 rfl fun w X β0 hC hg=> ?_
  refine rq hC [.z (.b (true))] [4,8] [(4,V.tp (iE e))] [] [] (rq hC [] (fr 9 5) [] [(0,sc [vI (wr (count+1))])] [] (qs (vj h (fun x_=>aZ [(1,vI depth),(2,vI deep),(3,V.ref 0 0),(4,V.tp (iE e)),(21,vB x_)] [(0,E.cells [vI (wr (count+1))])] [0]) (fun j1 h=> ?_) (fun x2 h=> ?_))))
  ·
   refine aT h (fun c1 h=> ?_) (fun c1 h=> ?_)
   ·exact rk hC (rF 3 c1) (fr 14 8) [(21,vB (decide ((5:Int)<deep)))] [] [] (lE h)
   ·exact rk hC (rT 3 c1) (fr 14 8) [(21,vB true)] [] [] (lE h)
  ·refine aU h (fun c2 h=> ?_) (fun c2 h=> ?_)
   ·obtain rfl:=so h
    exact rq hC [] [8] [(8,vB false)] [] [] (qr eW)
   ·refine qk (qs (vj h (fun x_=>aZ [(1,vI depth),(2,vI deep),(3,V.ref 0 0),(4,V.tp (iE e)),(51,vB x_)] [(0,E.cells [vI (wr (count+1))])] [0]) (fun j3 h=> ?_) (fun x10 h=> ?_)))
    ·
     refine aT h (fun c3 h=> ?_) (fun c3 h=> ?_)
     ·refine aT h (fun c4 h=> ?_) (fun c4 h=> ?_)
      ·refine aT h (fun c5 h=> ?_) (fun c5 h=> ?_)
       ·exact rk hC (rF 4 c3++sF 4++rF 4 c4++[eF,oF c4]++sF 5++rF 4 c5++[eF,oF c5,eF]) (fr 22 30) [(51,vB false)] [] [] (lE h)
       ·obtain⟨x4,hx4,h⟩:=bd h
        exact rk hC (rF 4 c3++sF 4++rF 4 c4++[eF,oF c4]++sF 5++rT 3 c5++[oV (kE G hx4),oT c5,eF,oT c5,eF]) (fr 22 30) [(51,vB (!x4))] [] [] (lE h)
      ·obtain⟨x5,hx5,h⟩:=bd h
       refine aT h (fun c6 h=> ?_) (fun c6 h=> ?_)
       ·refine aT h (fun c7 h=> ?_) (fun c7 h=> ?_)
        ·exact rk hC (rF 4 c3++sF 4++rT 3 c4++[oV (fS G hx5),oT c4,eF,oT c4,eF]++rF 4 c6++rF 4 c7++[oF c6,oF c7,oF c6]) (fr 22 30) [(51,vB false)] [] [] (lE h)
        ·obtain⟨x6,hx6,h⟩:=bd h
         exact rk hC (rF 4 c3++sF 4++rT 3 c4++[oV (fS G hx5),oT c4,eF,oT c4,eF]++rF 4 c6++rT 3 c7++[oV (kE G hx6),oT c7,oF c6,oT c7,oF c6]) (fr 22 30) [(51,vB (!x6))] [] [] (lE h)
       ·exact rk hC (rF 4 c3++sF 4++rT 3 c4++[oV (fS G hx5),oT c4,eF,oT c4,eF]++rT 6 c6) (fr 22 30) [(51,vB true)] [] [] (lE h)
     ·refine aT h (fun c8 h=> ?_) (fun c8 h=> ?_)
      ·refine aT h (fun c9 h=> ?_) (fun c9 h=> ?_)
       ·refine aT h (fun c10 h=> ?_) (fun c10 h=> ?_)
        ·exact rk hC (rT 4 c3++rF 4 c8++rF 4 c9++[oF c8,oF c9,oF c8]++sF 4++rF 4 c10++[eF,oF c10,eF]) (fr 22 30) [(51,vB false)] [] [] (lE h)
        ·obtain⟨x7,hx7,h⟩:=bd h
         exact rk hC (rT 4 c3++rF 4 c8++rF 4 c9++[oF c8,oF c9,oF c8]++sF 4++rT 3 c10++[oV (kE G hx7),oT c10,eF,oT c10,eF]) (fr 22 30) [(51,vB (!x7))] [] [] (lE h)
       ·obtain⟨x8,hx8,h⟩:=bd h
        refine aT h (fun c11 h=> ?_) (fun c11 h=> ?_)
        ·refine aT h (fun c12 h=> ?_) (fun c12 h=> ?_)
         ·exact rk hC (rT 4 c3++rF 4 c8++rT 3 c9++[oV (fS G hx8),oT c9,oF c8,oT c9,oF c8]++rF 4 c11++rF 4 c12++[oF c11,oF c12,oF c11]) (fr 22 30) [(51,vB false)] [] [] (lE h)
         ·obtain⟨x9,hx9,h⟩:=bd h
          exact rk hC (rT 4 c3++rF 4 c8++rT 3 c9++[oV (fS G hx8),oT c9,oF c8,oT c9,oF c8]++rF 4 c11++rT 3 c12++[oV (kE G hx9),oT c12,oF c11,oT c12,oF c11]) (fr 22 30) [(51,vB (!x9))] [] [] (lE h)
        ·exact rk hC (rT 4 c3++rF 4 c8++rT 3 c9++[oV (fS G hx8),oT c9,oF c8,oT c9,oF c8]++rT 6 c11) (fr 22 30) [(51,vB true)] [] [] (lE h)
      ·exact rk hC (rT 4 c3++rT 6 c8++sT 6) (fr 22 30) [(51,vB true)] [] [] (lE h)
    ·refine aU h (fun c13 h=> ?_) (fun c13 h=> ?_)
     ·obtain rfl:=so h
      exact rq hC [] [8] [(8,vB false)] [] [] (qr eW)
     ·refine qk (qs (qb (rq hC [] (fr 52 4) [(52,vB (decide (e.kind=1)))] [] [] (aU h (fun c14 h=> ?_) (fun c14 h=> ?_)))))
      ·refine vj h (fun x_=>aZ [(8,vB x_)] [(0,E.cells [vI (wr (count+1))])] [0]) (fun j11 h=> ?_) (fun x13 h=> ?_)
       ·
        obtain⟨x12,hx12,h⟩:=bd h
        refine aT h (fun c15 h=> ?_) (fun c15 h=> ?_)
        ·exact rk hC ([oV (bJ G hx12)]++rF 5 c15) [8,56,57,58,59,60,61,62,63,64] [(8,vB false)] [] [] (lE h)
        ·exact rk hC ([oV (bJ G hx12)]++rT 3 c15++[oN aL e.kids,oT c15,oT c15]) [8,56,57,58,59,60,61,62,63,64] [(8,vB (decide ((e.kids.length:Int)=0)))] [] [] (lE h)
       ·obtain rfl:=so h
        exact qr eW
      ·refine rq hC [] (fr 65 4) [(65,vB (decide (e.kind=2)))] [] [] (aU h (fun c16 h=> ?_) (fun c16 h=> ?_))
       ·refine vj h (fun x_=>aZ [(8,vB x_)] [(0,E.cells [vI (wr (count+1))])] [0]) (fun j14 h=> ?_) (fun x17 h=> ?_)
        ·
         obtain⟨x15,hx15,h⟩:=bd h
         refine aT h (fun c17 h=> ?_) (fun c17 h=> ?_)
         ·exact rk hC ([oV (cX G hx15)]++rF 6 c17++sF 5) [8,69,70,71,72,73,74,75,76,77,78,79,80,81,82,83,84] [(8,vB false)] [] [] (lE h)
         ·obtain⟨x16,hx16,h⟩:=bd h
          refine aT h (fun c18 h=> ?_) (fun c18 h=> ?_)
          ·exact rk hC ([oV (cX G hx15)]++rT 3 c17++[oV (fT G hx16)]++rT 3 c17++rF 5 c18) [8,69,70,71,72,73,74,75,76,77,78,79,80,81,82,83,84] [(8,vB false)] [] [] (lE h)
          ·exact rk hC ([oV (cX G hx15)]++rT 3 c17++[oV (fT G hx16)]++rT 3 c17++rT 3 c18++[oN aL e.kids,oT c18,oT c18]) [8,69,70,71,72,73,74,75,76,77,78,79,80,81,82,83,84] [(8,vB (decide ((e.kids.length:Int)=0)))] [] [] (lE h)
        ·obtain rfl:=so h
         exact qr eW
       ·refine rq hC [] (fr 85 4) [(85,vB (decide (e.kind=3)))] [] [] (aU h (fun c19 h=> ?_) (fun c19 h=> ?_))
        ·refine vj h (fun x_=>aZ [(8,vB x_)] [(0,E.cells [vI (wr (count+1))])] [0]) (fun j18 h=> ?_) (fun x20 h=> ?_)
         ·
          obtain⟨x19,hx19,h⟩:=bd h
          refine aT h (fun c20 h=> ?_) (fun c20 h=> ?_)
          ·exact rk hC ([oV (kF G hx19)]++rF 5 c20) [8,89,90,91,92,93,94,95,96,97,98] [(8,vB false)] [] [] (lE h)
          ·exact rk hC ([oV (kF G hx19)]++rT 3 c20++[oN aL e.kids,oT c20,oT c20]) [8,89,90,91,92,93,94,95,96,97,98] [(8,vB (decide ((e.kids.length:Int)=0)))] [] [] (lE h)
         ·obtain rfl:=so h
          exact qr eW
        ·refine vj h (fun x_=>aZ [(1,vI depth),(2,vI deep),(3,V.ref 0 0),(4,V.tp (iE e)),(99,vB x_)] [(0,E.cells [vI (wr (count+1))])] [0]) (fun j21 h=> ?_) (fun x23 h=> ?_)
         ·
          obtain⟨x22,hx22,h⟩:=bd h
          refine aT h (fun c21 h=> ?_) (fun c21 h=> ?_)
          ·exact rk hC ([oV (T5 G hx22)]++rF 3 c21++[oN aL e.kids,oF c21,oF c21]) (fr 99 11) [(99,vB (!decide ((e.kids.length:Int)=2)))] [] [] (lE h)
          ·exact rk hC ([oV (T5 G hx22)]++rT 5 c21) (fr 99 11) [(99,vB true)] [] [] (lE h)
         ·refine aU h (fun c22 h=> ?_) (fun c22 h=> ?_)
          ·obtain rfl:=so h
           exact rq hC [] [8] [(8,vB false)] [] [] (qr eW)
          ·refine qk (vj h (fun x_=>aZ [(8,vB x_.2)] [(0,E.cells [vI x_.1])] [0]) (fun j24 h=> ?_) ?_)
           ·
            obtain⟨x25,hx25,x26,hx26,h⟩:=d4 h
            refine aT h (fun c23 h=> ?_) (fun c23 h=> ?_)
            ·exact rk hC ([.z (.row (fD x25)),oQ (iZ aL hx25 (eA x25)),oC [0] [] (ih x25 depth (wr (deep+1)) (wr (count+1)) hx26)]++rF 10 c23) [8,110,111,112,113,114,115,116,117,118,119,120,121,122,123,124,125,126,127,128,129] [(8,vB false)] [(0,sc [vI x26.2])] [(0,true)] (lE h)
            ·obtain⟨x27,hx27,x28,hx28,h⟩:=d4 h
             exact rk hC ([.z (.row (fD x25)),oQ (iZ aL hx25 (eA x25)),oC [0] [] (ih x25 depth (wr (deep+1)) (wr (count+1)) hx26)]++rT 3 c23++[.z (.row (fD x27)),oQ (iZ aL hx27 (eA x27))]++rT 6 c23++[oC [0] [] (ih x27 depth (wr (deep+1)) x26.2 hx28),oT c23]) [8,110,111,112,113,114,115,116,117,118,119,120,121,122,123,124,125,126,127,128,129] [(8,vB x28.1)] [(0,sc [vI x28.2])] [(0,true),(0,true)] (lE h)
           ·rintro⟨x29,x30⟩ h
            obtain rfl:=so h
            exact qr eW
theorem A9{s}{depth}{r}(h:jI n s depth=some r):PQ G 126 [V.agg (fU s),vI depth] (vB r):=by
 unfold jI at h
 refine pq aS Tryz.func126 rfl fun w X hC=> ?_
 refine rq hC [.z (.b (true))] [2,4] [(2,V.tp (qK s))] [] [] (rq hC [.z (.nat 20)] [5] [(5,V.ref 20 0)] [(20,sc [vI 0])] [(20,true)] (vj h (fun x_=>aZ [(4,vB x_.2)] [(20,E.cells [vI x_.1])] [20]) (fun j1 h=> ?_) ?_))
 ·
  obtain⟨x2,hx2,h⟩:=bd h
  refine aT h (fun c1 h=> ?_) (fun c1 h=> ?_)
  ·exact rk hC ([oV (bJ G hx2)]++rF 5 c1++sF 5) [4,6,7,8,9,10,11,12,13,14,15,16,17,18,19] [(4,vB false)] [] [] (lE h)
  ·obtain⟨x3,hx3,h⟩:=bd h
   refine aT h (fun c2 h=> ?_) (fun c2 h=> ?_)
   ·exact rk hC ([oV (bJ G hx2)]++rT 4 c1++[oV (kF G hx3),oT c1]++rF 5 c2) [4,6,7,8,9,10,11,12,13,14,15,16,17,18,19] [(4,vB false)] [] [] (lE h)
   ·obtain⟨x4,hx4,h⟩:=bd h
    exact rk hC ([oV (bJ G hx2)]++rT 4 c1++[oV (kF G hx3),oT c1]++rT 4 c2++[oC [20] [] (K8 G n s.value depth 1 0 hx4),oT c2]) [4,6,7,8,9,10,11,12,13,14,15,16,17,18,19] [(4,vB x4.1)] [(20,sc [vI x4.2])] [(20,true)] (lE h)
 ·rintro⟨x5,x6⟩ h
  obtain rfl:=so h
  exact qr eR
theorem m5(G:GS)(n:Nat)(s:Stmt)(c0__a1:Part){r:Bool}(h:bX n s c0__a1=some r):PQ G 125 [V.agg (fU s),V.tp (oK c0__a1)] (vB r):=by
 unfold bX at h
 refine pq aS Tryz.func125 rfl fun w X hC=> ?_
 refine rq hC [.z (.b (true))] [2,3] [(2,V.tp (qK s))] [] [] ?_
 obtain⟨x1,hx1,h⟩:=bd h
 obtain rfl:=so h
 exact rq hC [oN aD c0__a1.nest,oV (A9 G hx1)] (fr 3 7) [(3,vB (!x1))] [] [] (qr eR)
theorem A8(G:GS)(n:Nat)(n_a0:Int){r:Bool}(h:gN n n_a0=some r):PQ G 170 [vI n_a0] (vB r):=by
 unfold gN at h
 refine pq aS Tryz.func170 rfl fun w X hC=> ?_
 refine rq hC [] [2] [] [] [] ?_
 obtain⟨x1,hx1,h⟩:=bd h
 obtain rfl:=so h
 exact rq hC [oV (bJ G hx1)] (fr 2 4) [(2,vB (!x1))] [] [] (qr eR)
theorem T4{point}{r}(h:mS n point=some r):PQ G 127 [vM rI point] (vB r):=by
 unfold mS at h
 refine pq aS Tryz.func127 rfl fun w X hC=> ?_
 refine rq hC [] [2] [] [] [] (vj h (fun x_=>aZ [(2,vB x_)] [] []) (fun j1 h=> ?_) (fun x3 h=> ?_))
 ·
  refine aT h (fun c1 h=> ?_) (fun c1 h=> ?_)
  ·exact rk hC ([oN rI point]++rF 4 c1) (fr 2 9) [(2,vB false)] [] [] (lE h)
  ·obtain⟨x2,hx2,h⟩:=bd h
   exact rk hC [oN rI point,oT c1,oT c1,oV (dU G n point 170 (fun q0=>gN n q0) (fun q0 r h=>A8 G n q0 h) hx2),oT c1,oT c1] (fr 2 9) [(2,vB (!x2))] [] [] (lE h)
 ·obtain rfl:=so h
  exact qr eR
theorem oI(G:GS)(n:Nat)(s:List Stmt)(fF:FuncId)(fC0:List T)(f:Stmt→Option Bool)(hf: ∀(q0:Stmt) r,f q0=some r→PQ G fF [V.agg (fU q0),V.tp fC0] (vB r)){r:Int}(h:fP n s f=some r):PQ G 167 [vM aR s,V.fn fF [V.tp fC0]] (vI r):=by
 unfold fP at h
 refine pq aS Tryz.func167 rfl fun w X hC=> ?_
 refine rq hC [] [4] [] [] [] (qs (rq hC [oN aR s] [6,7,8] [(7,vI (s.length:Int)),(8,vI 0)] [] [] (qb (kJ h (fun x_=>aZ [(0,vM aR s),(1,V.fn fF [V.tp fC0]),(7,vI (s.length:Int)),(8,vI x_)] [] []) lS ?_))))
 rintro again2 x1 h
 refine rq hC [] [9] [(9,vB (decide (x1<(s.length:Int))))] [] [] (qs (aU h (fun c1 h=> ?_) (fun c1 h=> ?_)))
 ·refine qk (qs (qb (rq hC [] [5,10] [(5,vI x1)] [] [] ?_)))
  obtain⟨x3,hx3,x4,hx4,h⟩:=d4 h
  refine rq hC [oR aR hx3,oV (hf x3 _ hx4)] (fr 11 6) [(16,vB x4)] [] [] (aU h (fun c2 h=> ?_) (fun c2 h=> ?_))
  ·obtain rfl:=so h
   exact rq hC [] [4,17] [(4,vI x1)] [] [] (qr eR)
  ·exact qk (rk hC [] [8,18] [(8,vI (wr (x1+1)))] [] [] (lE h))
 ·obtain rfl:=so h
  exact dL (rq hC [] [4] [(4,vI (-1))] [] [] (qr eR))
theorem mA(G:GS)(n:Nat)(s:List Stmt)(fF:FuncId)(fC0:List T)(f:Stmt→Option Bool)(hf: ∀(q0:Stmt) r,f q0=some r→PQ G fF [V.agg (fU q0),V.tp fC0] (vB r)){r:Bool}(h:cZ n s f=some r):PQ G 124 [vM aR s,V.fn fF [V.tp fC0]] (vB r):=by
 unfold cZ at h
 refine pq aS Tryz.func124 rfl fun w X hC=> ?_
 refine rq hC [] [4] [] [] [] ?_
 obtain⟨x1,hx1,h⟩:=bd h
 obtain rfl:=so h
 exact rq hC [oV (oI G n s fF fC0 f hf hx1)] (fr 4 5) [(4,vB (decide ((0:Int)≤x1)))] [] [] (qr eR)
theorem iG{p}{r}(h:bV n p=some r):VQ G 76 [] [V.agg (cO p)] (V.tup [ms 0 1 3 aV r.1,vB r.2]) [ar 135 1 3 aV r.1]:=by
 unfold bV at h
 refine vq aS Tryz.func76 rfl fun w X β0 hC hg=> ?_
 refine rq hC [.z (.b (true))] [1,2,3] [(1,V.tp (cD p))] [] [] (qs (vj h (fun x_=>aZ [(1,V.tp (cD p)),(22,vB x_)] [] []) (fun j1 h=> ?_) (fun x3 h=> ?_)))
 ·
  obtain⟨x2,hx2,h⟩:=bd h
  refine aT h (fun c1 h=> ?_) (fun c1 h=> ?_)
  ·exact rk hC ([oV (tJ G hx2)]++rF 3 c1++[oN aF p.parts,oF c1,oF c1]) (fr 13 10) [(22,vB (decide ((4:Int)<(p.parts.length:Int))))] [] [] (lE h)
  ·exact rk hC ([oV (tJ G hx2)]++rT 5 c1) (fr 13 10) [(22,vB true)] [] [] (lE h)
 ·refine aU h (fun c2 h=> ?_) (fun c2 h=> ?_)
  ·obtain rfl:=so h
   exact rq hC [] [2,3] [(2,V.t T.nilS),(3,vB false)] [] [] (qw (lk hC [.grow 2 0 135] [2] [(2,ms 0 1 3 aV [])] [(0,some (ar 135 1 3 aV []))] [(0,true)]) (qr eW))
  ·refine qk (rq hC [] [4] [(4,V.t T.nilS)] [] [] (qs (rq hC [oN aF p.parts] (fr 23 4) [(24,vM aF p.parts),(25,vI (p.parts.length:Int)),(26,vI 0)] [] [] (qb (qw (lk hC [.grow 4 20 135] [4] [(4,ms 20 1 3 aV [])] [(20,some (ar 135 1 3 aV []))] [(20,true)]) ?_)))))
   refine bM (γ:=Nat) h (fun x_ g_=>aZ [(1,V.tp (cD p)),(4,ms 20 g_ 3 aV x_.1),(24,vM aF p.parts),(25,vI (p.parts.length:Int)),(26,vI x_.2)] [(20,ar 135 g_ 3 aV x_.1)] [20]) 1 (lS) ?_
   rintro again7 ⟨x4,x5⟩ g6 h
   refine rq hC [] [27] [(27,vB (decide (x5<(p.parts.length:Int))))] [] [] (qs (aU h (fun c3 h=> ?_) (fun c3 h=> ?_)))
   ·refine qk (qs (qb ?_))
    obtain⟨x8,hx8,h⟩:=bd h
    refine rq hC [oR aF hx8,.z (.nat 21),.z (.at 0),.z (.fp 21 [6])] [5,6,28,29,30] [(5,vI x5),(6,V.tp (oK x8))] [(21,none)] [(21,true)] ?_
    obtain⟨x9,hx9,h⟩:=bd h
    refine rq hC [oC [] [22] (zQ G hx9)] [7,8,31,32,33,34,35,36] [(7,ms 22 1 1 (rL rI) x9.1),(8,vB x9.2)] [(22,some (ar 33 1 1 (rL rI) x9.1))] [(22,true)] (qs (vj h (fun x_=>aZ [(1,V.tp (cD p)),(4,ms 20 g6 3 aV x4),(5,vI x5),(6,V.tp (oK x8)),(7,ms 22 1 1 (rL rI) x9.1),(24,vM aF p.parts),(25,vI (p.parts.length:Int)),(26,vI x5),(51,vB x_)] [(20,ar 135 g6 3 aV x4),(22,ar 33 1 1 (rL rI) x9.1)] [20,21,22]) (fun j10 h=> ?_) (fun x13 h=> ?_)))
    ·
     refine aT h (fun c4 h=> ?_) (fun c4 h=> ?_)
     ·obtain⟨x11,hx11,h⟩:=bd h
      refine aT h (fun c5 h=> ?_) (fun c5 h=> ?_)
      ·obtain⟨x12,hx12,h⟩:=bd h
       exact rk hC (rF 3 c4++[oN aR x8.body,oF c4,oV (bJ G hx11),oF c4,oF c4]++rF 4 c5++[oV (mA G n x8.body 125 (oK x8) (fun q0=>bX n q0 x8) (fun q0 r h=>m5 G n q0 x8 h) hx12),oF c5]) (fr 37 15) [(51,vB x12)] [] [] (lE h)
      ·exact rk hC (rF 3 c4++[oN aR x8.body,oF c4,oV (bJ G hx11),oF c4,oF c4]++rT 5 c5) (fr 37 15) [(51,vB true)] [] [] (lE h)
     ·exact rk hC (rT 6 c4++sT 5) (fr 37 15) [(51,vB true)] [] [] (lE h)
    ·refine aU h (fun c6 h=> ?_) (fun c6 h=> ?_)
     ·obtain rfl:=so h
      exact rq hC [] [2,3] [(2,V.t T.nilS),(3,vB false)] [] [] (qw (lk hC [.grow 2 0 135] [2] [(2,ms 0 1 3 aV [])] [(0,some (ar 135 1 3 aV []))] [(0,true)]) (qr eW))
     ·refine qk (rq hC [oN (rL rI) x9.1] [52,53,54] [(52,ms 22 1 1 (rL rI) x9.1),(53,vI (x9.1.length:Int)),(54,vI 0)] [] [] (qb (bM (γ:=Nat) h (fun x_ g_=>aZ [(1,V.tp (cD p)),(4,ms 20 g_ 3 aV x_.1),(5,vI x5),(6,V.tp (oK x8)),(24,vM aF p.parts),(25,vI (p.parts.length:Int)),(26,vI x5),(52,ms 22 1 1 (rL rI) x9.1),(53,vI (x9.1.length:Int)),(54,vI x_.2)] [(20,ar 135 g_ 3 aV x_.1),(22,ar 33 1 1 (rL rI) x9.1)] [20,21,22]) g6 (lS) ?_)))
      rintro again17 ⟨x14,x15⟩ g16 h
      refine rq hC [] [55] [(55,vB (decide (x15<(x9.1.length:Int))))] [] [] (qs (aU h (fun c7 h=> ?_) (fun c7 h=> ?_)))
      ·refine qk (qs (qb ?_))
       obtain⟨x18,hx18,h⟩:=bd h
       refine rq hC [oQ (lO (rL rI) hx18),oX (rL rI) hx18] [10,56,57] [(10,vM rI x18)] [] [] (qs ?_)
       obtain⟨x19,hx19,h⟩:=bd h
       refine rq hC [oV (T4 G hx19)] [58,59,60] [(60,vB (!x19))] [] [] (aU h (fun c8 h=> ?_) (fun c8 h=> ?_))
       ·obtain rfl:=so h
        exact rq hC [] [2,3] [(2,V.t T.nilS),(3,vB false)] [] [] (qw (lk hC [.grow 2 0 135] [2] [(2,ms 0 1 3 aV [])] [(0,some (ar 135 1 3 aV []))] [(0,true)]) (qr eW))
       ·refine qk (rq hC [oN aR x8.body] (fr 61 4) [(62,vM aR x8.body),(63,vI (x8.body.length:Int)),(64,vI 0)] [] [] (qb (bM (γ:=Nat) h (fun x_ g_=>aZ [(1,V.tp (cD p)),(4,ms 20 g_ 3 aV x_.1),(5,vI x5),(6,V.tp (oK x8)),(10,vM rI x18),(24,vM aF p.parts),(25,vI (p.parts.length:Int)),(26,vI x5),(52,ms 22 1 1 (rL rI) x9.1),(53,vI (x9.1.length:Int)),(54,vI x15),(62,vM aR x8.body),(63,vI (x8.body.length:Int)),(64,vI x_.2)] [(20,ar 135 g_ 3 aV x_.1),(22,ar 33 1 1 (rL rI) x9.1)] [20,21,22]) g16 (lS) ?_)))
        rintro again23 ⟨x20,x21⟩ g22 h
        refine rq hC [] [65] [(65,vB (decide (x21<(x8.body.length:Int))))] [] [] (qs (aU h (fun c9 h=> ?_) (fun c9 h=> ?_)))
        ·refine qk (qs (qb ?_))
         obtain⟨x24,hx24,h⟩:=bd h
         refine rq hC [oR aR hx24,.z (.nat 23)] [11,12,66,67,68] [(11,vI x21),(12,V.ref 23 0)] [(23,some (E.cells (fU x24)))] [(23,true)] (qs ?_)
         obtain⟨x25,hx25,h⟩:=bd h
         refine rq hC [oV (rK G hx25)] (fr 69 5) [(73,vB (!x25))] [] [] (aU h (fun c10 h=> ?_) (fun c10 h=> ?_))
         ·obtain rfl:=so h
          exact rq hC [] [2,3] [(2,V.t T.nilS),(3,vB false)] [] [] (qw (lk hC [.grow 2 0 135] [2] [(2,ms 0 1 3 aV [])] [(0,some (ar 135 1 3 aV []))] [(0,true)]) (qr eW))
         ·refine qk ?_
          obtain⟨x26,hx26,x27,hx27,h⟩:=d4 h
          exact rk hC [oC [] [24] (G.clone x18 hx26),.z (.at 4),.z (.fz 24 [78] []),.z (.int 0),oA (aM aV hx27),oQ (bZ (r:=aV) 3 pY x20),oQ (bZ (r:=aV) 3 pY [(⟨x5,x21,x26⟩:Inst)])] [4,74,75,76,77,78,79,80,81] [(4,ms 20 (g22+1) 3 aV x27)] [(24,none),(20,some (ar 135 (g22+1) 3 aV x27))] [(24,true)] (rk hC [] [64,82] [(64,vI (wr (x21+1)))] [] [] ⟨(x27,wr (x21+1)),(g22+1),h,lS⟩)
        ·exact dL (rk hC [] [54,83] [(54,vI (wr (x15+1)))] [] [] ⟨(x20,wr (x15+1)),g22,h,lS⟩)
      ·exact dL (rk hC [] [26,84] [(26,vI (wr (x5+1)))] [] [] ⟨(x14,wr (x5+1)),g16,h,lS⟩)
   ·obtain rfl:=so h
    exact dL (rq hC [oN aV x4] [2,3,85,86,87,88] [(2,ms 20 g6 3 aV x4),(3,vB (decide ((x4.length:Int)≤120)))] [] [] (qw (lk hC [.ren 2 20 0] [2] [(2,ms 0 1 3 aV x4)] [(0,some (ar 135 1 3 aV x4)),(20,none)] [(0,true)]) (qr eW)))
theorem m7{p}{r}(h:eC n p=some r):PQ G 23 [V.agg (cO p)] (vB r):=by
 unfold eC at h
 refine pq aS Tryz.func23 rfl fun w X hC=> ?_
 refine rq hC [.z (.b (true))] [1,2] [(1,V.tp (cD p))] [] [] ?_
 obtain⟨x1,hx1,h⟩:=bd h
 obtain rfl:=so h
 exact rq hC [oC [] [20] (iG G hx1)] (fr 3 7) [(4,vB x1.2)] [(20,some (ar 135 1 3 aV x1.1))] [(20,true)] (rq hC [] [2,10] [(2,vB x1.2)] [] [] (qr eR))
theorem uW{p}{x}{r}(h:fJ n p x=some r):PQ G 140 [V.agg (cO p),V.agg (aDz x)] (V.agg (fU r)):=by
 unfold fJ at h
 refine pq aS Tryz.func140 rfl fun w X hC=> ?_
 refine rq hC [.z (.b (true)),.z (.b (true)),.z (.nat 20)] [2,3,4] [(2,V.tp (cD p)),(3,V.tp (aCl x)),(4,V.ref 20 0)] [(20,sc [vS [],V.t T.nilS,vI 0,vI 0,V.t T.nilS,vI 0,vS [],V.t T.nilS,V.t T.nilS])] [(20,true)] (qs ?_)
 obtain⟨x1,hx1,x2,hx2,h⟩:=d4 h
 obtain rfl:=so h
 exact dk hC bP [oR aF hx1,oR aR hx2] (fr 5 11) [] [(20,some (E.cells (fU x2)))] [] (qr eR)
theorem qI{p}{x}{r}(h:dT n p x=some r):VQ G 96 [] [V.agg (cO p),V.agg (aDz x)] (V.tup [ms 0 1 1 rI r.1,vI r.2]) [ar 3 1 1 rI r.1]:=by
 unfold dT at h
 refine vq aS Tryz.func96 rfl fun w X β0 hC hg=> ?_
 refine rq hC [.z (.b (true)),.z (.b (true))] (fr 2 4) [(2,V.tp (cD p)),(3,V.tp (aCl x))] [] [] ?_
 obtain⟨x1,hx1,h⟩:=bd h
 refine rq hC [oV (uW G hx1),.z (.nat 20)] [6,10,11,12] [(6,V.ref 20 0)] [(20,some (E.cells (fU x1)))] [(20,true)] (rq hC [] [7] [(7,V.t T.nilS)] [] [] (qs ?_))
 obtain⟨x2,hx2,h⟩:=bd h
 refine rq hC [oC [] [21] (F5 G n x1.value hx2),oN aN x2] (fr 13 5) [(15,ms 21 1 2 aN x2),(16,vI (x2.length:Int)),(17,vI 0)] [(21,some (ar 82 1 2 aN x2))] [(21,true)] (qb (qw (lk hC [.grow 7 22 3] [7] [(7,ms 22 1 1 rI [])] [(22,some (ar 3 1 1 rI []))] [(22,true)]) (bM (γ:=Nat) h (fun x_ g_=>aZ [(2,V.tp (cD p)),(3,V.tp (aCl x)),(6,V.ref 20 0),(7,ms 22 g_ 1 rI x_.1),(15,ms 21 1 2 aN x2),(16,vI (x2.length:Int)),(17,vI x_.2)] [(20,E.cells (fU x1)),(21,ar 82 1 2 aN x2),(22,ar 3 g_ 1 rI x_.1)] [20,21,22]) 1 (lS) ?_)))
 rintro again6 ⟨x3,x4⟩ g5 h
 refine rq hC [] [18] [(18,vB (decide (x4<(x2.length:Int))))] [] [] (qs (aU h (fun c1 h=> ?_) (fun c1 h=> ?_)))
 ·refine qk (qs (qb ?_))
  obtain⟨x7,hx7,h⟩:=bd h
  refine rq hC [oQ (lO aN hx7),oX aN hx7,.z (.nat 23)] [9,19,20] [(9,V.ref 23 0)] [(23,some (E.cells (dX x7)))] [(23,true)] ?_
  obtain⟨x8,hx8,x9,hx9,h⟩:=d4 h
  exact rk hC [oV (eE G hx8),.z (.int 0),oA (aM rI hx9),oQ (bZ (r:=rI) 1 (fun _=>rfl) x3),oQ (bZ (r:=rI) 1 (fun _=>rfl) [x8])] [7,21,22,23,24,25,26,27,28] [(7,ms 22 (g5+1) 1 rI x9)] [(22,some (ar 3 (g5+1) 1 rI x9))] [] (rk hC [] [17,29] [(17,vI (wr (x4+1)))] [] [] ⟨(x9,wr (x4+1)),(g5+1),h,lS⟩)
 ·refine dL ?_
  obtain⟨x10,hx10,h⟩:=bd h
  obtain rfl:=so h
  exact rq hC [oV (eE G hx10)] [4,5,30,31,32,33,34,35,36] [(4,ms 22 g5 1 rI x3),(5,vI x10)] [] [] (qw (lk hC [.ren 4 22 0] [4] [(4,ms 0 1 1 rI x3)] [(0,some (ar 3 1 1 rI x3)),(22,none)] [(0,true)]) (qr eW))
theorem E9{p}{r}(h:sV n p=some r):PQ G 53 [V.agg (cO p)] (V.tup [vP aEv r.1,vB r.2]):=by
 unfold sV at h
 refine pmr aS Tryz.func53 rfl rfl rfl rfl rfl (aGY _ _ _) rfl ?_
 intro w X hC
 refine rq hC [.z (.b (true))] [1,2,3] [(1,V.tp (cD p))] [] [] ?_
 obtain⟨x1,hx1,h⟩:=bd h
 refine rq hC [oC [] [20] (iG G hx1)] [4,5,11,12,13,14,15] [(4,ms 20 1 3 aV x1.1),(5,vB x1.2)] [(20,some (ar 135 1 3 aV x1.1))] [(20,true)] (qs (rq hC [] [16,17] [(17,vB (!x1.2))] [] [] (aU h (fun c1 h=> ?_) (fun c1 h=> ?_))))
 ·obtain rfl:=so h
  exact rq hC [] [2,3] [(2,V.t T.nilP),(3,vB false)] [] [] (qr eR)
 ·refine qk (rq hC [.z (.nat 21)] [6,18,19,20,21] [(6,V.ref 21 0)] [(21,sc [vM aI p.arrays,vM aF p.parts,ms 20 1 3 aV x1.1,V.t T.nilS,V.t T.nilS])] [(21,true)] (qs (rq hC [oN aV x1.1] [22,23,24] [(22,ms 20 1 3 aV x1.1),(23,vI (x1.1.length:Int)),(24,vI 0)] [] [] (qb (qw (lk hC [.growc 21 3 22 33] [] [] [(22,some (ar 33 1 1 (rL rI) [])),(21,sc [vM aI p.arrays,vM aF p.parts,ms 20 1 3 aV x1.1,ms 22 1 1 (rL rI) [],V.t T.nilS])] [(22,true)]) ?_)))))
  refine qw (lk hC [.growc 21 4 23 3] [] [] [(23,some (ar 3 1 1 rI [])),(21,sc [vM aI p.arrays,vM aF p.parts,ms 20 1 3 aV x1.1,ms 22 1 1 (rL rI) [],ms 23 1 1 rI []])] [(23,true)]) (bM (γ:=Nat×Nat) h (fun x_ g_=>aZ [(1,V.tp (cD p)),(6,V.ref 21 0),(22,ms 20 1 3 aV x1.1),(23,vI (x1.1.length:Int)),(24,vI x_.2.2)] [(20,ar 135 1 3 aV x1.1),(21,E.cells [vM aI p.arrays,vM aF p.parts,ms 20 1 3 aV x1.1,ms 22 g_.1 1 (rL rI) x_.1,ms 23 g_.2 1 rI x_.2.1]),(22,ar 33 g_.1 1 (rL rI) x_.1),(23,ar 3 g_.2 1 rI x_.2.1)] [20,21,22,23]) (1,1) (lS) ?_)
  rintro again7 ⟨x2,x3,x4⟩ ⟨g5,g6⟩ h
  refine rq hC [] [25] [(25,vB (decide (x4<(x1.1.length:Int))))] [] [] (qs (aU h (fun c2 h=> ?_) (fun c2 h=> ?_)))
  ·refine qk (qs (qb ?_))
   obtain⟨x8,hx8,h⟩:=bd h
   refine rq hC [oQ (lO aV hx8),oX aV hx8,.z (.nat 24)] [8,26,27] [(8,V.ref 24 0)] [(24,some (E.cells (aDz x8)))] [(24,true)] ?_
   obtain⟨x9,hx9,h⟩:=bd h
   refine rq hC [oC [] [25] (qI G hx9)] [9,10,28,29,30,31,32,33] [(9,ms 25 1 1 rI x9.1),(10,vI x9.2)] [(25,some (ar 3 1 1 rI x9.1))] [(25,true)] ?_
   obtain⟨x10,hx10,x11,hx11,h⟩:=d4 h
   exact dk hC bP [.z (.at 15),.z (.fz 25 [9,40] []),.z (.int 0),oA (aM (rL rI) hx10),.z (.int 0),oQ (bZ (r:=(rL rI)) 1 (fun _=>rfl) x2),oQ (bZ (r:=(rL rI)) 1 (fun _=>rfl) [x9.1]),oA (aM rI hx11),oQ (bZ (r:=rI) 1 (fun _=>rfl) x3),oQ (bZ (r:=rI) 1 (fun _=>rfl) [x9.2])] [9,34,35,36,37,38,39,40,41,42,43,44,45,46,47,48,49,50,51,52,53] [] [(25,none),(22,some (ar 33 (g5+1) 1 (rL rI) x10)),(23,some (ar 3 (g6+1) 1 rI x11)),(21,sc [vM aI p.arrays,vM aF p.parts,ms 20 1 3 aV x1.1,ms 22 (g5+1) 1 (rL rI) x10,ms 23 (g6+1) 1 rI x11])] [] (rk hC [] [24,54] [(24,vI (wr (x4+1)))] [] [] ⟨(x10,x11,wr (x4+1)),((g5+1),(g6+1)),h,lS⟩)
  ·obtain rfl:=so h
   exact dL (rq hC [] [2,3,55] [(2,V.ref 21 0),(3,vB true)] [] [] (qw (lk hC [.fz 20 [22] [21],.fz 22 [] [21],.fz 23 [] [21],.fp 21 [2,6]] [2,6,22] [(2,V.tp [T.sl (List.map aI p.arrays),T.sl (List.map aF p.parts),T.sl (List.map aV x1.1),T.sl (List.map (rL rI) x2),T.sl (List.map rI x3)]),(6,V.tp [T.sl (List.map aI p.arrays),T.sl (List.map aF p.parts),T.sl (List.map aV x1.1),T.sl (List.map (rL rI) x2),T.sl (List.map rI x3)]),(22,vM aV x1.1)] [(21,none),(20,none),(22,none),(23,none)] []) (qr eR)))
theorem wB{p}{r}(h:fX n p=some r):VQ G 161 [] [V.agg (cO p)] (ms 0 1 3 aV r) [ar 135 1 3 aV r]:=by
 unfold fX at h
 refine vq aS Tryz.func161 rfl fun w X β0 hC hg=> ?_
 refine rq hC [.z (.b (true))] [1,2] [(1,V.tp (cD p))] [] [] (rq hC [.z (.nat 20)] [3,8] [(3,ms 20 1 3 aV [])] [(20,some (ar 135 1 3 aV []))] [(20,true)] (qs (rq hC [] [4] [(4,vI 0)] [] [] (qb (bM (γ:=Nat) h (fun x_ g_=>aZ [(1,V.tp (cD p)),(3,ms 20 g_ 3 aV x_.1),(4,vI x_.2)] [(20,ar 135 g_ 3 aV x_.1)] [20]) 1 (lS) ?_)))))
 rintro again4 ⟨x1,x2⟩ g3 h
 refine qs (rq hC [oN aF p.parts] (fr 9 5) [(13,vB (decide (x2<(p.parts.length:Int))))] [] [] (aU h (fun c1 h=> ?_) (fun c1 h=> ?_)))
 ·refine qk (qs (qb ?_))
  obtain⟨x5,hx5,x6,hx6,h⟩:=d4 h
  refine rq hC [.z (.nat 21),oR aF hx5,oC [21] [] (tE G n [] 1 x5.nest [] hx6)] [5,16,17,18,19,20,21,22,23] [(5,ms 21 2 1 (rL rI) x6)] [(21,some (ar 33 2 1 (rL rI) x6))] [(21,true),(21,true)] (rq hC [] [6] [(6,vI 0)] [] [] (qb (bM (γ:=Nat) h (fun x_ g_=>aZ [(1,V.tp (cD p)),(3,ms 20 g_ 3 aV x_.1),(4,vI x2),(5,ms 21 2 1 (rL rI) x6),(6,vI x_.2)] [(20,ar 135 g_ 3 aV x_.1),(21,ar 33 2 1 (rL rI) x6)] [20,21]) g3 (lS) ?_)))
  rintro again10 ⟨x7,x8⟩ g9 h
  refine qs (rq hC [oN (rL rI) x6] (fr 24 4) [(27,vB (decide (x8<(x6.length:Int))))] [] [] (aU h (fun c2 h=> ?_) (fun c2 h=> ?_)))
  ·refine qk (qs (qb (rq hC [] [7] [(7,vI 0)] [] [] (qb (bM (γ:=Nat) h (fun x_ g_=>aZ [(1,V.tp (cD p)),(3,ms 20 g_ 3 aV x_.1),(4,vI x2),(5,ms 21 2 1 (rL rI) x6),(6,vI x8),(7,vI x_.2)] [(20,ar 135 g_ 3 aV x_.1),(21,ar 33 2 1 (rL rI) x6)] [20,21]) g9 (lS) ?_)))))
   rintro again14 ⟨x11,x12⟩ g13 h
   refine qs (rq hC [oR aF hx5,oN aR x5.body] (fr 30 9) [(38,vB (decide (x12<(x5.body.length:Int))))] [] [] (aU h (fun c3 h=> ?_) (fun c3 h=> ?_)))
   ·refine qk (qs (qb ?_))
    obtain⟨x15,hx15,x16,hx16,x17,hx17,h⟩:=kQ h
    exact rk hC [.z (.nat 22),oQ (lO (rL rI) hx15),oX (rL rI) hx15,oA (aM rI hx16),.z (.at 4),.z (.fz 22 [49] []),.z (.int 0),oQ (bZ (r:=rI) 1 (fun _=>rfl) []),oQ (bZ (r:=rI) 1 (fun _=>rfl) x15),oA (aM aV hx17),oQ (bZ (r:=aV) 3 pY x11),oQ (bZ (r:=aV) 3 pY [(⟨x2,x12,x16⟩:Inst)])] [3,41,42,43,44,45,46,47,48,49,50,51,52] [(3,ms 20 (g13+1) 3 aV x17)] [(22,none),(20,some (ar 135 (g13+1) 3 aV x17))] [(22,true)] (rk hC [] [7,39,40] [(7,vI (wr (x12+1)))] [] [] ⟨(x17,wr (x12+1)),(g13+1),h,lS⟩)
   ·exact dL (rk hC [] [6,28,29] [(6,vI (wr (x8+1)))] [] [] ⟨(x11,wr (x8+1)),g13,h,lS⟩)
  ·exact dL (rk hC [] [4,14,15] [(4,vI (wr (x2+1)))] [] [] ⟨(x7,wr (x2+1)),g9,h,lS⟩)
 ·obtain rfl:=so h
  exact dL (rq hC [] [2,53] [(2,ms 20 g3 3 aV x1)] [] [] (qw (lk hC [.ren 2 20 0] [2] [(2,ms 0 1 3 aV x1)] [(0,some (ar 135 1 3 aV x1)),(20,none)] [(0,true)]) (qr eW)))
theorem aAf{p}{r}(h:oW n p=some r):VQ G 121 [] [V.agg (cO p)] (ms 0 1 2 dA r) [ar 160 1 2 dA r]:=by
 unfold oW at h
 refine vq aS Tryz.func121 rfl fun w X β0 hC hg=> ?_
 refine rq hC [.z (.b (true))] [1,2] [(1,V.tp (cD p))] [] [] (rq hC [.z (.nat 20)] [3,9] [(3,ms 20 1 2 dA [])] [(20,some (ar 160 1 2 dA []))] [(20,true)] ?_)
 obtain⟨x1,hx1,h⟩:=bd h
 refine rq hC [oC [] [21] (wB G hx1)] [4,10,11] [(4,ms 21 1 3 aV x1)] [(21,some (ar 135 1 3 aV x1))] [(21,true)] (qs (rq hC [] [5] [(5,vI 0)] [] [] (qb (bM (γ:=Nat) h (fun x_ g_=>aZ [(1,V.tp (cD p)),(3,ms 20 g_ 2 dA x_.1),(4,ms 21 1 3 aV x1),(5,vI x_.2)] [(20,ar 160 g_ 2 dA x_.1),(21,ar 135 1 3 aV x1)] [20,21]) 1 (lS) ?_))))
 rintro again5 ⟨x2,x3⟩ g4 h
 refine qs (rq hC [oN aV x1] (fr 12 4) [(15,vB (decide (x3<(x1.length:Int))))] [] [] (aU h (fun c1 h=> ?_) (fun c1 h=> ?_)))
 ·refine qk (qs (qb (qs ?_)))
  obtain⟨x6,hx6,x7,hx7,x8,hx8,h⟩:=kQ h
  obtain⟨x9,hx9,h⟩:=bd h
  refine dk hC bP [oQ (lO aV hx6),oX aV hx6,oR aF hx7,oQ (lO aV hx6),oX aV hx6,oR aR hx8,oQ (lO aV hx6),oX aV hx6,oC [] [22] (vO G hx9)] [6,7,8,18,19,20,21,22,23,24,25,26,27,28,29,30,31,32,33,34,35,36,37,38,39,40,41,42,43,44,45,46] [(6,ms 22 1 1 rI x9.1),(7,vI x9.2.1)] [(22,some (ar 3 1 1 rI x9.1))] [(22,true)] ?_
  obtain⟨x10,hx10,h⟩:=bd h
  exact rk hC [.z (.at 4),.z (.fz 22 [6,48] []),.z (.int 0),oA (aM dA hx10),oQ (bZ (r:=dA) 2 xK x2),oQ (bZ (r:=dA) 2 xK [(⟨x9.1,x9.2.1⟩:L6Use)])] [3,6,47,48,49,50,51,52] [(3,ms 20 (g4+1) 2 dA x10)] [(22,none),(20,some (ar 160 (g4+1) 2 dA x10))] [] (rk hC [] [5,16,17] [(5,vI (wr (x3+1)))] [] [] ⟨(x10,wr (x3+1)),(g4+1),h,lS⟩)
 ·obtain rfl:=so h
  exact dL (rq hC [] [2,53] [(2,ms 20 g4 2 dA x2)] [] [] (qw (lk hC [.ren 2 20 0] [2] [(2,ms 0 1 2 dA x2)] [(0,some (ar 160 1 2 dA x2)),(20,none)] [(0,true)]) (qr eW)))
theorem S8{r_a0}{r}(h:mN n r_a0=some r):VQ G 68 [eL r_a0] [V.ref 0 0] (V.agg (cO r.1)) [eL r.2]:=by
 unfold mN at h
 refine vq aS Tryz.func68 rfl fun w X β0 hC hg=> ?_
 refine rq hC [.z (.nat 20)] [2] [(2,V.ref 20 0)] [(20,sc [V.t T.nilS,V.t T.nilS])] [(20,true)] ?_
 obtain⟨x1,hx1,h⟩:=bd h
 refine rq hC [.z (.int 0),oC [0] [] (iB G hx1)] [3,6,7,8] [(3,vS x1.1)] [(0,sR x1.2)] [(0,true)] ?_
 obtain⟨x2,hx2,x3,hx3,h⟩:=d4 h
 refine rq hC [oS hx2,oV (mY G hx3),.z (.nat 21)] [4,5,9,10,11,12,13,14] [(4,V.ref 21 0),(5,vB x3.2)] [(21,some (E.cells (cO x3.1)))] [(21,true)] (qs (vj h (fun x_=>aZ [(0,V.ref 0 0),(2,V.ref 20 0),(4,V.ref 21 0),(20,vB x_.2.2)] [(0,E.cells [vM rY x_.1,vI x_.2.1]),(20,E.cells [V.t T.nilS,V.t T.nilS]),(21,E.cells (cO x3.1))] [0,20,21]) (fun j4 h=> ?_) ?_))
 ·
  refine aT h (fun c1 h=> ?_) (fun c1 h=> ?_)
  ·exact rk hC (rF 4 c1) (fr 15 6) [(20,vB false)] [] [] (lE h)
  ·obtain⟨x5,hx5,h⟩:=bd h
   exact rk hC [oT c1,oT c1,oC [0] [] (bA G hx5),oT c1,oT c1] (fr 15 6) [(20,vB (decide (x5.1=0)))] [(0,sR x5.2)] [(0,true)] (lE h)
 ·rintro⟨x6,x7,x8⟩ h
  refine aU h (fun c2 h=> ?_) (fun c2 h=> ?_)
  ·obtain rfl:=so h
   exact rq hC [] [21] [] [(20,some (E.cells (cO x3.1)))] [] (qr eW)
  ·refine qk ?_
   obtain⟨x9,hx9,h⟩:=bd h
   obtain rfl:=so h
   exact rq hC [oC [0] [] (aAe G hx9)] [22,23] [] [(0,sR x9.2),(20,some (E.cells (cO x9.1)))] [(0,true)] (qr eW)
theorem S7{r_a0}{r}(h:mM n r_a0=some r):VQ G 69 [eL r_a0] [V.ref 0 0] (vI r.1) [eL r.2]:=by
 unfold mM at h
 refine vq aS Tryz.func69 rfl fun w X β0 hC hg=> ?_
 refine rq hC [] [2] [] [] [] ?_
 obtain⟨x1,hx1,h⟩:=bd h
 obtain rfl:=so h
 exact rq hC [.z (.int 0),oC [0] [] (aX G hx1)] (fr 2 4) [(2,vI x1.1)] [(0,sR x1.2)] [(0,true)] (qr eW)
theorem oH{code}{r}(h:cY n code=some r):PQ G 19 [vM rY code] (V.tup [V.agg (cO r.1),vI r.2]):=by
 unfold cY at h
 refine pq aS Tryz.func19 rfl fun w X hC=> ?_
 refine rq hC [.z (.nat 20)] [2,3] [(2,V.ref 20 0)] [(20,sc [V.t T.nilS,V.t T.nilS])] [(20,true)] ?_
 obtain⟨x1,hx1,h⟩:=bd h
 refine rq hC [oC [] [21] (S6 G hx1)] [4,6,7] [(4,V.ref 21 0)] [(21,sR x1)] [(21,true)] ?_
 obtain⟨x2,hx2,x3,hx3,h⟩:=d4 h
 refine rq hC [oC [21] [] (S8 G hx2),oC [21] [] (K6 G hx3),.z (.nat 22)] [5,8,9,10,11] [(5,V.ref 22 0)] [(21,sR x3.2),(22,some (E.cells (cO x3.1)))] [(21,true),(21,true),(22,true)] (qs ?_)
 obtain⟨x4,hx4,h⟩:=bd h
 obtain rfl:=so h
 exact dk hC bP [oC [21] [] (S7 G hx4)] [3,12,13,14] [(3,vI x4.1)] [(21,sR x4.2),(20,some (E.cells (cO x3.1)))] [(21,true)] (qr eR)
theorem K7{s}{r}(h:lF n s=some r):PQ G 77 [vM rI s] (vM rI r):=by
 unfold lF at h
 refine pq aS Tryz.func77 rfl fun w X hC=> ?_
 refine rq hC [] [2] [] [] [] ?_
 obtain⟨x1,hx1,h⟩:=bd h
 obtain rfl:=so h
 exact rq hC [oN rI s,oN rI s,.z (.rows (List.map rI x1)),oQ (And.intro (rV rI hx1) (Eq.refl ((s.length:Int):Int))),oQ (bZ (r:=rI) 1 (fun _=>rfl) s)] (fr 2 7) [(2,vM rI x1)] [] [] (qr eR)
theorem m8{p}{r}(h:dJ n p=some r):PQ G 24 [V.agg (cO p)] (vM rI r):=by
 unfold dJ at h
 refine pq aS Tryz.func24 rfl fun w X hC=> ?_
 refine rq hC [.z (.b (true))] [1,2] [(1,V.tp (cD p))] [] [] (qs ?_)
 obtain⟨x1,hx1,h⟩:=bd h
 refine aT h (fun c1 h=> ?_) (fun c1 h=> ?_)
 ·refine rk hC [.z (.v (V.tup [V.t T.nilP,vB x1.2])),oQ (vPn c1 (E9 G hx1))] [3,4,7,8,9,10,11] [(3,V.t T.nilP),(4,vB x1.2)] [] [] (qs (rq hC [] [12,13] [(13,vB (!x1.2))] [] [] (aU h (fun c2 h=> ?_) (fun c2 h=> ?_))))
  ·obtain rfl:=so h
   exact rq hC [] [2] [(2,V.t T.nilS)] [] [] (qr eR)
  ·exact qk (rq hC [] [5] [(5,V.t T.nilS)] [] [] (qs (qs (nof h))))
 ·refine rk hC [.z (.v (V.tup [V.tp [T.sl (List.map aI (((x1.1.getD default).program).arrays)),T.sl (List.map aF (((x1.1.getD default).program).parts)),T.sl (List.map aV ((x1.1.getD default).list)),T.sl (List.map (rL rI) ((x1.1.getD default).reads)),T.sl (List.map rI ((x1.1.getD default).writes))],vB x1.2])),oQ (vPs c1 (E9 G hx1))] [3,4,7,8,9,10,11] [(3,V.tp [T.sl (List.map aI (((x1.1.getD default).program).arrays)),T.sl (List.map aF (((x1.1.getD default).program).parts)),T.sl (List.map aV ((x1.1.getD default).list)),T.sl (List.map (rL rI) ((x1.1.getD default).reads)),T.sl (List.map rI ((x1.1.getD default).writes))]),(4,vB x1.2)] [] [] (qs (rq hC [] [12,13] [(13,vB (!x1.2))] [] [] (aU h (fun c3 h=> ?_) (fun c3 h=> ?_))))
  ·obtain rfl:=so h
   exact rq hC [] [2] [(2,V.t T.nilS)] [] [] (qr eR)
  ·refine qk (rq hC [] [5] [(5,V.t T.nilS)] [] [] (qs (rq hC [oN aV ((x1.1.getD default).list)] (fr 14 6) [(18,vI (((x1.1.getD default).list).length:Int)),(19,vI 0)] [] [] (qb (qw (lk hC [.grow 5 20 3] [5] [(5,ms 20 1 1 rI [])] [(20,some (ar 3 1 1 rI []))] [(20,true)]) ?_)))))
   refine bM (γ:=Nat) h (fun x_ g_=>aZ [(3,V.tp [T.sl (List.map aI (((x1.1.getD default).program).arrays)),T.sl (List.map aF (((x1.1.getD default).program).parts)),T.sl (List.map aV ((x1.1.getD default).list)),T.sl (List.map (rL rI) ((x1.1.getD default).reads)),T.sl (List.map rI ((x1.1.getD default).writes))]),(5,ms 20 g_ 1 rI x_.1),(18,vI (((x1.1.getD default).list).length:Int)),(19,vI x_.2)] [(20,ar 3 g_ 1 rI x_.1)] [20]) 1 (lS) ?_
   rintro again5 ⟨x2,x3⟩ g4 h
   refine rq hC [] [20] [(20,vB (decide (x3<(((x1.1.getD default).list).length:Int))))] [] [] (qs (aU h (fun c4 h=> ?_) (fun c4 h=> ?_)))
   ·refine qk (qs (qb (rq hC [] [6,21] [(6,vI x3)] [] [] ?_)))
    obtain⟨x6,hx6,x7,hx7,x8,hx8,h⟩:=kQ h
    obtain⟨x9,hx9,h⟩:=bd h
    exact dk hC bP [oR (rL rI) hx6,oA (aM rI hx7),oQ (bZ (r:=rI) 1 (fun _=>rfl) x2),oQ (bZ (r:=rI) 1 (fun _=>rfl) x6),oR rI hx8,.z (.int 0),oA (aM rI hx9),oQ (bZ (r:=rI) 1 (fun _=>rfl) x7),oQ (bZ (r:=rI) 1 (fun _=>rfl) [x8])] [5,22,23,24,25,26,27,28,29,30,31,32,33,34,35,36,37,38,39] [(5,ms 20 (g4+2) 1 rI x9)] [(20,some (ar 3 (g4+2) 1 rI x9))] [] (rk hC [] [19,40] [(19,vI (wr (x3+1)))] [] [] ⟨(x9,wr (x3+1)),(g4+2),h,lS⟩)
   ·refine dL ?_
    obtain⟨x10,hx10,x11,hx11,h⟩:=d4 h
    obtain rfl:=so h
    exact rq hC [oN rI x2,.z (.at 3),.z (.fz 20 [5,41,42] []),oA (rV rI hx10),oQ (bZ (r:=rI) 1 (fun _=>rfl) x2),oV (K7 G hx11)] [2,5,41,42,43,44,45,46] [(2,vM rI x11)] [(20,none)] [] (qr eR)
theorem dW{p}{size}{r}(h:dO n p size=some r):PQ G 20 [V.agg (cO p),vI size] (vI r):=by
 unfold dO at h
 refine pq aS Tryz.func20 rfl fun w X hC=> ?_
 refine rq hC [.z (.b (true))] [2,4] [(2,V.tp (cD p))] [] [] (qs ?_)
 obtain⟨x1,hx1,h⟩:=bd h
 refine rq hC [oV (m7 G hx1)] [5,6,7] [(7,vB (!x1))] [] [] (aU h (fun c1 h=> ?_) (fun c1 h=> ?_))
 ·obtain rfl:=so h
  exact rq hC [] [4] [(4,vI (-1))] [] [] (qr eR)
 ·refine qk ?_
  obtain⟨x2,hx2,x3,hx3,h⟩:=d4 h
  obtain rfl:=so h
  exact rq hC [oV (m8 G hx2),oV (G.lru x2 size x3 hx3)] [4,8,9,10,11] [(4,vI x3)] [] [] (qr eR)
theorem rJ{trace}{r}(h:d8 n trace=some r):VQ G 120 [] [vM rI trace] (ms 0 1 1 rI r) [ar 3 1 1 rI r]:=by
 unfold d8 at h
 refine vq aS Tryz.func120 rfl fun w X β0 hC hg=> ?_
 refine rq hC [] [2] [] [] [] (rq hC [.z (.nat 20)] [3,9] [(3,ms 20 1 1 rI [])] [(20,some (ar 3 1 1 rI []))] [(20,true)] (qs (rq hC [oN rI trace] [10,11,12] [(12,vB (decide ((600:Int)<(trace.length:Int))))] [] [] (aU h (fun c1 h=> ?_) (fun c1 h=> ?_)))))
 ·obtain rfl:=so h
  exact rq hC [] [2,13] [(2,ms 20 1 1 rI [])] [] [] (qw (lk hC [.ren 2 20 0] [2] [(2,ms 0 1 1 rI [])] [(0,some (ar 3 1 1 rI [])),(20,none)] [(0,true)]) (qr eW))
 ·refine qk (rq hC [.z (.nat 21)] [4,14] [(4,ms 21 1 1 rI [])] [(21,some (ar 3 1 1 rI []))] [(21,true)] (qs (rq hC [] [5] [(5,vI 0)] [] [] (qb (qw (lk hC [.fz 21 [4] []] [4] [(4,vM rI [])] [(21,none)] []) ?_)))))
  refine bM (γ:=Nat) h (fun x_ g_=>aZ [(0,vM rI trace),(3,ms 20 g_ 1 rI x_.1),(4,vM rI x_.2.1),(5,vI x_.2.2)] [(20,ar 3 g_ 1 rI x_.1)] [20,21]) 1 (lS) ?_
  rintro again5 ⟨x1,x2,x3⟩ g4 h
  refine qs (rq hC [oN rI trace] (fr 15 4) [(18,vB (decide (x3<(trace.length:Int))))] [] [] (aU h (fun c2 h=> ?_) (fun c2 h=> ?_)))
  ·refine qk (qs (qb (rq hC [] [6] [(6,vI (-1))] [] [] (rq hC [.z (.nat 22)] [7,21] [(7,ms 22 1 1 rI [])] [(22,some (ar 3 1 1 rI []))] [(22,true)] (qs (rq hC [] [8] [(8,vI 0)] [] [] ?_))))))
   refine qb (bM (γ:=Nat) h (fun x_ g_=>aZ [(0,vM rI trace),(3,ms 20 g4 1 rI x1),(4,vM rI x2),(5,vI x3),(6,vI x_.2.1),(7,ms 22 g_ 1 rI x_.1),(8,vI x_.2.2)] [(20,ar 3 g4 1 rI x1),(22,ar 3 g_ 1 rI x_.1)] [20,21,22]) 1 (lS) ?_)
   rintro again10 ⟨x6,x7,x8⟩ g9 h
   refine qs (rq hC [oN rI x2] (fr 22 4) [(25,vB (decide (x8<(x2.length:Int))))] [] [] (aU h (fun c3 h=> ?_) (fun c3 h=> ?_)))
   ·refine qk ?_
    obtain⟨j11,hj11,h⟩:=yG h
    refine jM (γ:=Nat) (j:=j11) (r:=r) (fun x_ g_=>aZ [(0,vM rI trace),(3,ms 20 g4 1 rI x1),(4,vM rI x2),(5,vI x3),(6,vI x_.2),(7,ms 22 g_ 1 rI x_.1),(8,vI x8)] [(20,ar 3 g4 1 rI x1),(22,ar 3 g_ 1 rI x_.1)] [20,21,22]) ?_ ?_
    ·
     refine qb (qs ?_)
     obtain⟨x12,hx12,x13,hx13,h⟩:=d4 h
     refine dk hC bP [oR rI hx12,oR rI hx13] (fr 28 9) [(36,vB (decide (x12=x13)))] [] [] (aU h (fun c4 h=> ?_) (fun c4 h=> ?_))
     ·exact rk hC [] [6,37] [(6,vI x8)] [] [] ⟨(x6,x8),g9,h,lS⟩
     ·obtain⟨x14,hx14,h⟩:=bd h
      exact rk hC [oR rI hx12,.z (.int 0),oA (aM rI hx14),oQ (bZ (r:=rI) 1 (fun _=>rfl) x6),oQ (bZ (r:=rI) 1 (fun _=>rfl) [x12])] [7,38,39,40,41,42,43,44] [(7,ms 22 (g9+1) 1 rI x14)] [(22,some (ar 3 (g9+1) 1 rI x14))] [] ⟨(x14,x7),(g9+1),h,lS⟩
    ·rintro⟨x15,x16⟩ g17 h
     subst hj11
     exact rk hC [] [8,26,27] [(8,vI (wr (x8+1)))] [] [] ⟨(x15,x16,wr (x8+1)),g17,h,lS⟩
   ·refine dL ?_
    obtain⟨x18,hx18,h⟩:=bd h
    refine rq hC [.z (.int 0),oA (aM rI hx18),oQ (bZ (r:=rI) 1 (fun _=>rfl) x1),oQ (bZ (r:=rI) 1 (fun _=>rfl) [x7])] [3,45,46,47,48] [(3,ms 20 (g4+1) 1 rI x18)] [(20,some (ar 3 (g4+1) 1 rI x18))] [] ?_
    obtain⟨x19,hx19,x20,hx20,h⟩:=d4 h
    exact rk hC [oR rI hx19,.z (.int 1),.z (.nat 23),.z (.at 2),.z (.fz 22 [7,54] []),oA (aM rI hx20),oQ (bZ (r:=rI) 1 (fun _=>rfl) [x19]),oQ (bZ (r:=rI) 1 (fun _=>rfl) x6)] [4,7,49,50,51,52,53,54,55] [(4,ms 23 2 1 rI x20)] [(23,some (ar 3 2 1 rI x20)),(22,none)] [(23,true)] (rk hC [] [5,19,20] [(5,vI (wr (x3+1)))] [] [] ⟨(x18,x20,wr (x3+1)),(g4+1),h,((lk hC [.fz 23 [4] []] [4] [(4,vM rI x20)] [(23,none)] []).trans (lS))⟩)
  ·obtain rfl:=so h
   exact dL (rq hC [] [2,56] [(2,ms 20 g4 1 rI x1)] [] [] (qw (lk hC [.ren 2 20 0] [2] [(2,ms 0 1 1 rI x1)] [(0,some (ar 3 1 1 rI x1)),(20,none)] [(0,true)]) (qr eW)))
theorem S9{trace}{size}{r}(h:iL n trace size=some r):PQ G 119 [vM rI trace,vI size] (vB r):=by
 unfold iL at h
 refine pq aS Tryz.func119 rfl fun w X hC=> ?_
 refine rq hC [] [4] [] [] [] (vj h (fun x_=>aZ [(4,vB x_)] [] []) (fun j1 h=> ?_) (fun x2 h=> ?_))
 ·
  refine aT h (fun c1 h=> ?_) (fun c1 h=> ?_)
  ·exact rk hC ([oN rI trace]++rF 3 c1++[eF,eF,eF]) (fr 4 12) [(4,vB false)] [] [] (lE h)
  ·refine aT h (fun c2 h=> ?_) (fun c2 h=> ?_)
   ·exact rk hC ([oN rI trace]++rT 3 c1++rF 3 c2) (fr 4 12) [(4,vB false)] [] [] (lE h)
   ·exact rk hC ([oN rI trace]++rT 3 c1++rT 3 c2) (fr 4 12) [(4,vB (decide (size≤40)))] [] [] (lE h)
 ·obtain rfl:=so h
  exact qr eR
theorem A7{trace}{size}{r}(h:eH n trace size=some r):PQ G 72 [vM rI trace,vI size] (vI r):=by
 unfold eH at h
 refine pq aS Tryz.func72 rfl fun w X hC=> ?_
 refine rq hC [] [4] [] [] [] (qs ?_)
 obtain⟨x1,hx1,h⟩:=bd h
 refine rq hC [oV (S9 G hx1)] (fr 8 4) [(11,vB (!x1))] [] [] (aU h (fun c1 h=> ?_) (fun c1 h=> ?_))
 ·obtain rfl:=so h
  exact rq hC [] [4] [(4,vI (-1))] [] [] (qr eR)
 ·refine qk (rq hC [] [5] [(5,vI 0)] [] [] ?_)
  obtain⟨x2,hx2,h⟩:=bd h
  refine rq hC [oC [] [20] (rJ G hx2)] [6,12,13] [(6,ms 20 1 1 rI x2)] [(20,some (ar 3 1 1 rI x2))] [(20,true)] (qs (rq hC [] [7] [(7,vI 0)] [] [] (qb (kJ h (fun x_=>aZ [(1,vI size),(5,vI x_.1),(6,ms 20 1 1 rI x2),(7,vI x_.2)] [(20,ar 3 1 1 rI x2)] [20]) lS ?_))))
  rintro again5 ⟨x3,x4⟩ h
  refine qs (rq hC [oN rI x2] (fr 14 4) [(17,vB (decide (x4<(x2.length:Int))))] [] [] (aU h (fun c2 h=> ?_) (fun c2 h=> ?_)))
  ·refine qk (vj h (fun x_=>aZ [(1,vI size),(5,vI x_),(6,ms 20 1 1 rI x2),(7,vI x4)] [(20,ar 3 1 1 rI x2)] [20]) (fun j6 h=> ?_) (fun x10 h=> ?_))
   ·
    refine qb (vj h (fun x_=>aZ [(1,vI size),(5,vI x3),(6,ms 20 1 1 rI x2),(7,vI x4),(32,vB x_)] [(20,ar 3 1 1 rI x2)] [20]) (fun j7 h=> ?_) (fun x9 h=> ?_))
    ·
     obtain⟨x8,hx8,h⟩:=bd h
     refine aT h (fun c3 h=> ?_) (fun c3 h=> ?_)
     ·exact rk hC ([oQ (lO rI hx8),oX rI hx8]++rF 3 c3++[oQ (lO rI hx8),oF c3,oX rI hx8]++rF 3 c3) (fr 20 13) [(32,vB (decide (size≤x8)))] [] [] (lE h)
     ·exact rk hC ([oQ (lO rI hx8),oX rI hx8]++rT 7 c3) (fr 20 13) [(32,vB true)] [] [] (lE h)
    ·refine aU h (fun c4 h=> ?_) (fun c4 h=> ?_)
     ·exact rk hC [] [5,33,34] [(5,vI (wr (x3+1)))] [] [] (lE h)
     ·exact qk (lE h)
   ·exact rk hC [] [7,18,19] [(7,vI (wr (x4+1)))] [] [] (lE h)
  ·obtain rfl:=so h
   exact dL (rq hC [] [4,35] [(4,vI x3)] [] [] (qr eR))
theorem uU{p}{r}(h:d9 n p=some r):VQ G 73 [] [V.agg (cO p)] (ms 0 1 1 rI r) [ar 3 1 1 rI r]:=by
 unfold d9 at h
 refine vq aS Tryz.func73 rfl fun w X β0 hC hg=> ?_
 refine rq hC [.z (.b (true))] [1,2] [(1,V.tp (cD p))] [] [] (rq hC [.z (.nat 20)] [3,6] [(3,ms 20 1 1 rI [])] [(20,some (ar 3 1 1 rI []))] [(20,true)] (qs ?_))
 obtain⟨x1,hx1,h⟩:=bd h
 refine rq hC [oV (fR G hx1)] [7,8,9] [(9,vB (!x1))] [] [] (aU h (fun c1 h=> ?_) (fun c1 h=> ?_))
 ·obtain rfl:=so h
  exact rq hC [] [2,10] [(2,ms 20 1 1 rI [])] [] [] (qw (lk hC [.ren 2 20 0] [2] [(2,ms 0 1 1 rI [])] [(0,some (ar 3 1 1 rI [])),(20,none)] [(0,true)]) (qr eW))
 ·refine qk ?_
  obtain⟨x2,hx2,h⟩:=bd h
  refine rq hC [oC [] [21] (aAf G hx2)] [4,11,12] [(4,ms 21 1 2 dA x2)] [(21,some (ar 160 1 2 dA x2))] [(21,true)] (qs (rq hC [] [5] [(5,vI 0)] [] [] (qb (bM (γ:=Nat) h (fun x_ g_=>aZ [(3,ms 20 g_ 1 rI x_.1),(4,ms 21 1 2 dA x2),(5,vI x_.2)] [(20,ar 3 g_ 1 rI x_.1),(21,ar 160 1 2 dA x2)] [20,21]) 1 (lS) ?_))))
  rintro again6 ⟨x3,x4⟩ g5 h
  refine qs (rq hC [oN dA x2] (fr 13 4) [(16,vB (decide (x4<(x2.length:Int))))] [] [] (aU h (fun c2 h=> ?_) (fun c2 h=> ?_)))
  ·refine qk (qs (qb (qs ?_)))
   obtain⟨x7,hx7,x8,hx8,x9,hx9,h⟩:=kQ h
   refine dk hC bP [oQ (lO dA hx7),oX dA hx7,oA (aM rI hx8),oQ (bZ (r:=rI) 1 (fun _=>rfl) x3),oQ (bZ (r:=rI) 1 (fun _=>rfl) x7.reads),oQ (lO dA hx7),oX dA hx7,.z (.int 0),oA (aM rI hx9),oQ (bZ (r:=rI) 1 (fun _=>rfl) x8),oQ (bZ (r:=rI) 1 (fun _=>rfl) [x7.write])] [3,19,20,21,22,23,24,25,26,27,28,29,30,31,32] [(3,ms 20 (g5+2) 1 rI x9)] [(20,some (ar 3 (g5+2) 1 rI x9))] [] (rq hC [oN rI x9] [33,34,35] [(35,vB (decide ((600:Int)<(x9.length:Int))))] [] [] (aU h (fun c3 h=> ?_) (fun c3 h=> ?_)))
   ·obtain⟨x10,hx10,x11,hx11,h⟩:=d4 h
    obtain rfl:=so h
    exact rq hC [.z (.nat 22),.z (.at 3),.z (.fz 20 [3,37] []),oA (rV rI hx10),oQ (bZ (r:=rI) 1 (fun _=>rfl) x9),oA (aM rI hx11),oQ (bZ (r:=rI) 1 (fun _=>rfl) []),oQ (bZ (r:=rI) 1 (fun _=>rfl) x10)] [2,3,36,37,38,39] [(2,ms 22 2 1 rI x11)] [(22,some (ar 3 2 1 rI x11)),(20,none)] [(22,true)] (qw (lk hC [.ren 2 22 0] [2] [(2,ms 0 1 1 rI x11)] [(0,some (ar 3 1 1 rI x11)),(22,none)] [(0,true)]) (qr eW))
   ·exact qk (rk hC [] [5,17,18] [(5,vI (wr (x4+1)))] [] [] ⟨(x9,wr (x4+1)),(g5+2),h,lS⟩)
  ·obtain rfl:=so h
   exact dL (rq hC [] [2,40] [(2,ms 20 g5 1 rI x3)] [] [] (qw (lk hC [.ren 2 20 0] [2] [(2,ms 0 1 1 rI x3)] [(0,some (ar 3 1 1 rI x3)),(20,none)] [(0,true)]) (qr eW)))
theorem iC{p}{size}{r}(h:dN n p size=some r):PQ G 21 [V.agg (cO p),vI size] (vI r):=by
 unfold dN at h
 refine pq aS Tryz.func21 rfl fun w X hC=> ?_
 refine rq hC [.z (.b (true))] [2,4] [(2,V.tp (cD p))] [] [] (qs ?_)
 obtain⟨x1,hx1,h⟩:=bd h
 refine rq hC [oV (fR G hx1)] [5,6,7] [(7,vB (!x1))] [] [] (aU h (fun c1 h=> ?_) (fun c1 h=> ?_))
 ·obtain rfl:=so h
  exact rq hC [] [4] [(4,vI (-1))] [] [] (qr eR)
 ·refine qk ?_
  obtain⟨x2,hx2,x3,hx3,h⟩:=d4 h
  obtain rfl:=so h
  exact rq hC [oC [] [20] (uU G hx2),.z (.b (true)),oV (A7 G hx3)] [4,8,9,10,11] [(4,vI x3)] [(20,some (ar 3 1 1 rI x2))] [(20,true)] (qr eR)
theorem uS(G:GS)(n:Nat)(code:List UInt8){r:Bool}(h:gR n code=some r):PQ G 6 [vM rY code] (vB r):=by
 unfold gR at h
 refine pq aS Tryz.func6 rfl fun w X hC=> ?_
 refine rq hC [] [2] [] [] [] (qs (rq hC [oN rY code] [7,8,9] [(9,vB (decide ((1048576:Int)<(code.length:Int))))] [] [] (aU h (fun c1 h=> ?_) (fun c1 h=> ?_))))
 ·obtain rfl:=so h
  exact rq hC [] [2] [(2,vB true)] [] [] (qr eR)
 ·refine qk ?_
  obtain⟨x1,hx1,h⟩:=bd h
  refine rq hC [oV (oH G hx1),.z (.nat 20)] [3,4,10,11,12,13,14] [(3,V.ref 20 0),(4,vI x1.2)] [(20,some (E.cells (cO x1.1)))] [(20,true)] ?_
  obtain⟨x2,hx2,h⟩:=bd h
  refine rq hC [oV (dW G hx2)] [5,15,16,17] [(5,vI x2)] [] [] (qs (vj h (fun x_=>aZ [(3,V.ref 20 0),(4,vI x1.2),(5,vI x2),(27,vB x_)] [(20,E.cells (cO x1.1))] [20]) (fun j3 h=> ?_) (fun x6 h=> ?_)))
  ·
   obtain⟨x4,hx4,h⟩:=bd h
   refine aT h (fun c2 h=> ?_) (fun c2 h=> ?_)
   ·obtain⟨x5,hx5,h⟩:=bd h
    exact rk hC [oV (iC G hx4),oF c2,oF c2,oV (m7 G hx5),oF c2,oF c2] (fr 18 10) [(27,vB (!x5))] [] [] (lE h)
   ·exact rk hC ([oV (iC G hx4)]++rT 4 c2) (fr 18 10) [(27,vB true)] [] [] (lE h)
  ·refine aU h (fun c3 h=> ?_) (fun c3 h=> ?_)
   ·obtain⟨x7,hx7,h⟩:=bd h
    obtain rfl:=so h
    exact rq hC [oV (iC G hx7)] [2,28,29,30,31,32] [(2,vB (decide (x2=x7)))] [] [] (qr eR)
   ·refine qk ?_
    obtain⟨x8,hx8,h⟩:=bd h
    refine rq hC [oV (m8 G hx8)] [6,33,34] [(6,vM rI x8)] [] [] (vj h (fun x_=>aZ [(2,vB x_)] [(20,E.cells (cO x1.1))] [20]) (fun j9 h=> ?_) (fun x12 h=> ?_))
    ·
     obtain⟨x10,hx10,h⟩:=bd h
     refine aT h (fun c4 h=> ?_) (fun c4 h=> ?_)
     ·exact rk hC ([oV (dW G hx10),oN rI x8]++rF 5 c4++sF 5) [2,35,36,37,38,39,40,41,42,43,44,45,46,47,48,49,50,51,52,53,54,55] [(2,vB false)] [] [] (lE h)
     ·refine aT h (fun c5 h=> ?_) (fun c5 h=> ?_)
      ·exact rk hC ([oV (dW G hx10),oN rI x8]++rT 3 c4++[oN rI x8,oT c4,oT c4]++rF 5 c5) [2,35,36,37,38,39,40,41,42,43,44,45,46,47,48,49,50,51,52,53,54,55] [(2,vB false)] [] [] (lE h)
      ·refine aT h (fun c6 h=> ?_) (fun c6 h=> ?_)
       ·obtain⟨x11,hx11,h⟩:=bd h
        exact rk hC ([oV (dW G hx10),oN rI x8]++rT 3 c4++[oN rI x8,oT c4,oT c4]++rT 3 c5++rF 3 c6++[oV (G.newc x8 x11 hx11),oF c6,oT c5,oF c6,oT c5]) [2,35,36,37,38,39,40,41,42,43,44,45,46,47,48,49,50,51,52,53,54,55] [(2,vB (decide (x11≤x2)))] [] [] (lE h)
       ·exact rk hC ([oV (dW G hx10),oN rI x8]++rT 3 c4++[oN rI x8,oT c4,oT c4]++rT 3 c5++rT 4 c6++[oT c5,oT c6,oT c5]) [2,35,36,37,38,39,40,41,42,43,44,45,46,47,48,49,50,51,52,53,54,55] [(2,vB true)] [] [] (lE h)
    ·obtain rfl:=so h
     exact qr eR
end Go.Lift
