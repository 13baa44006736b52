/- The walks: the code computes what the plain functions say. -/
import Derived.Test.YtcihigfifglboaaGreatWModels
import Derived.Test.YtcihigfifglboaaGreatWWalks1
set_option maxRecDepth 10000
set_option linter.unusedVariables false
namespace Go.Lift
open Go Go.Proofs
variable (G:GS) {n:Nat}
theorem cL{a}{r}(h:eG n a=some r):PQ G 197 [V.agg (cH a)] (vB r):=by
 refine pq aR Tryz.func197 rfl fun w X hC=>aU hC [.z (.b (true))] [1,2] [(1,V.tp (bZ a))] (vj h (fun x_=>dA [(2,vB x_)]) (fun j1 h=>?_) fun x4 h=>?_)
 ·refine aZ h (fun c1 h=>bL hC ([oN rI a.coefs]++rF 4 c1++sF 5) (fr 2 16) [(2,vB false)] (lE h)) fun c1 h=>?_;obtain⟨x2,hx2,h⟩:=bd h;refine aZ h (fun c2 h=>bL hC ([oN rI a.coefs]++rT 3 c1++[oV (wY G hx2),oT c1]++rF 5 c2) (fr 2 16) [(2,vB false)] (lE h)) fun c2 h=>?_;obtain⟨x3,hx3,h⟩:=bd h;exact bL hC ([oN rI a.coefs]++rT 3 c1++[oV (wY G hx2),oT c1]++rT 3 c2++[oV (cG G n a.coefs 221 (fun q0=>eA n q0) (fun q0 r h=>uB G n q0 h) hx3),oT c2,oT c2]) (fr 2 16) [(2,vB (!x3))] (lE h)
 obtain rfl:=so h;exact zr
theorem fN{a}{r}(h:dU n a=some r):PQ G 198 [V.agg (cH a)] (vI r):=by
 refine pq aR Tryz.func198 rfl fun w X hC=>aU hC [.z (.b (true))] [1,2] [(1,V.tp (bZ a))] (aU hC [oN rI a.coefs] (fr 3 4) [(3,vI (a.coefs.length:Int))] (dX (gY h (fun x_=>dA [(1,V.tp (bZ a)),(3,vI x_)]) lS ?_)));rintro again2 x1 h;refine qs (vj h (fun x_=>dA [(1,V.tp (bZ a)),(3,vI x1),(17,vB x_)]) (fun j3 h=>?_) fun x5 h=>?_)
 ·refine aZ h (fun c1 h=>bL hC (rF 8 c1) (fr 7 11) [(17,vB false)] (lE h)) fun c1 h=>?_;obtain⟨x4,hx4,h⟩:=bd h;exact bL hC (rT 5 c1++[oR rI hx4]++rT 3 c1) (fr 7 11) [(17,vD (x4=0))] (lE h)
 refine aX h (fun c2 h=>qk (qb (bE hC [3,18,19] [(3,vI (wr (x1-1)))] (lE h)))) fun c2 h=>?_;obtain rfl:=so h;exact dT (aE hC [2,20] [(2,vI x1)] zr)
theorem C4(G:GS)(n:Nat)(a:Affine)(c0__a1:Int){r:Bool}(h:fI n a c0__a1=some r):PQ G 218 [V.agg (cH a),V.tp [T.int .i64 c0__a1]] (vB r):=by
 refine pq aR Tryz.func218 rfl fun w X hC=>aU hC [.z (.b (true))] [2,3] [(2,V.tp (bZ a))] (vj h (fun x_=>dA [(3,vB x_)]) (fun j1 h=>?_) fun x4 h=>?_)
 ·obtain⟨x2,hx2,h⟩:=bd h;refine aZ h (fun c1 h=>?_) fun c1 h=>pI hC dB ([oV (cL G hx2)]++rT 5 c1) (fr 3 10) [(3,vB true)] (lE h);obtain⟨x3,hx3,h⟩:=bd h;exact pI hC dB ([oV (cL G hx2),oF c1,oF c1,oV (fN G hx3)]++rF 3 c1) (fr 3 10) [(3,vD (c0__a1<x3))] (lE h)
 obtain rfl:=so h;exact zr
theorem m8(G:GS)(n:Nat)(s:List Affine)(fF:FuncId)(fC0:List T)(f:Affine→Option Bool)(hf: ∀(q0:Affine) r,f q0=some r→PQ G fF [V.agg (cH q0),V.tp fC0] (vB r)){r:Int}(h:f9 n s f=some r):PQ G 219 [vM aA s,V.fn fF [V.tp fC0]] (vI r):=by
 refine pq aR Tryz.func219 rfl fun w X hC=>bC hC [4] (qs (aU hC [oN aA s] [6,7,8] [(7,vI (s.length:Int)),(8,vI 0)] (qb (gY h (fun x_=>dA [(0,vM aA s),(1,V.fn fF [V.tp fC0]),(7,vI (s.length:Int)),(8,vI x_)]) lS ?_))));rintro again2 x1 h;refine aE hC [9] [(9,vK x1 s)] (N5 h (fun c1 h=>?_) fun c1 h=>?_)
 ·refine qk (dX (aE hC [5,10] [(5,vI x1)] ?_));obtain⟨x3,hx3,x4,hx4,h⟩:=gH h;refine aU hC [oR aA hx3,oV (hf x3 _ hx4)] (fr 11 6) [(16,vB x4)] (aX h (fun c2 h=>?_) fun c2 h=>qk (bE hC [8,18] [(8,vI (wr (x1+1)))] (lE h)));obtain rfl:=so h;exact aE hC [4,17] [(4,vI x1)] zr
 obtain rfl:=so h;exact dT (aE hC [4] [(4,vI (-1))] zr)
theorem e9(G:GS)(n:Nat)(s:List Affine)(fF:FuncId)(fC0:List T)(f:Affine→Option Bool)(hf: ∀(q0:Affine) r,f q0=some r→PQ G fF [V.agg (cH q0),V.tp fC0] (vB r)){r:Bool}(h:cA n s f=some r):PQ G 195 [vM aA s,V.fn fF [V.tp fC0]] (vB r):=by refine pq aR Tryz.func195 rfl fun w X hC=>bC hC [4] ?_;obtain⟨x1,hx1,h⟩:=bd h;cases h;exact aU hC [oV (m8 G n s fF fC0 f hf hx1)] (fr 4 5) [(4,vD ((0:Int)≤x1))] zr
theorem n4{list}{depth}{r}(h:lJ n list depth=some r):PQ G 193 [vM aA list,vI depth] (vB r):=by
 refine pq aR Tryz.func193 rfl fun w X hC=>aU hC [.z (.b (true))] [3,4] [(3,V.tp [T.int .i64 depth])] (vj h (fun x_=>dA [(4,vB x_)]) (fun j1 h=>?_) fun x4 h=>?_)
 ·obtain⟨x2,hx2,h⟩:=bd h;refine aZ h (fun c1 h=>bL hC ([oN aA list,oV (bB G hx2)]++rF 5 c1) (fr 4 10) [(4,vB false)] (lE h)) fun c1 h=>?_;obtain⟨x3,hx3,h⟩:=bd h;exact bL hC ([oN aA list,oV (bB G hx2)]++rT 3 c1++[oV (e9 G n list 218 [T.int .i64 depth] (fun q0=>fI n q0 depth) (fun q0 r h=>C4 G n q0 depth h) hx3),oT c1,oT c1]) (fr 4 10) [(4,vB (!x3))] (lE h)
 obtain rfl:=so h;exact zr
theorem G9{nest}{r}(h:mE n nest=some r):PQ G 161 [vM aH nest] (vB r):=by
 refine pq aR Tryz.func161 rfl fun w X hC=>bC hC [2] (qs (aU hC [oN aH nest] [5,6,7] [(5,vM aH nest),(6,vI (nest.length:Int)),(7,vI 0)] (qb (gY h (fun x_=>dA [(0,vM aH nest),(5,vM aH nest),(6,vI (nest.length:Int)),(7,vI x_)]) lS ?_))));rintro again2 x1 h;refine aE hC [8] [(8,vK x1 nest)] (N5 h (fun c1 h=>?_) fun c1 h=>?_)
 ·refine qk (dX ?_);obtain⟨x3,hx3,h⟩:=bd h;refine rq hC [oR aH hx3,.z (.nat 20)] [3,4,9,10,11] [(3,vI x1),(4,V.ref 20 0)] [(20,some (E.cells (wZ x3)))] [(20,true)] (vj h (fun x_=>f8 [(0,vM aH nest),(5,vM aH nest),(6,vI (nest.length:Int)),(7,vI x1),(23,vB x_)] [(20,E.cells (wZ x3))] [20]) (fun j4 h=>?_) fun x7 h=>?_)
  ·obtain⟨x5,hx5,h⟩:=bd h;refine aZ h (fun c2 h=>?_) fun c2 h=>bL hC ([oV (n4 G hx5)]++rT 6 c2) (fr 12 12) [(23,vB true)] (lE h);obtain⟨x6,hx6,h⟩:=bd h;exact bL hC ([oV (n4 G hx5)]++rF 4 c2++[oV (n4 G hx6),oF c2,oF c2]) (fr 12 12) [(23,vB (!x6))] (lE h)
  refine aX h (fun c3 h=>?_) fun c3 h=>qk (bE hC [7,24] [(7,vI (wr (x1+1)))] (lE h));cases h;exact aE hC [2] [(2,vB false)] zr
 cases h;exact dT (aU hC [oN aH nest] [2,25,26,27] [(2,vD ((nest.length:Int)≤4))] zr)
theorem H0{l}{point}{r}(h:mF n l point=some r):PQ G 194 [V.agg (wZ l),vM rI point] (V.tup [vI r.1,vI r.2]):=by
 refine pq aR Tryz.func194 rfl fun w X hC=>aU hC [.z (.b (true))] [2,4,5] [(2,V.tp (oB l))] (qs ?_);obtain⟨x1,hx1,x2,hx2,x3,hx3,h⟩:=wF h;obtain⟨x4,hx4,h⟩:=bd h;refine pI hC dB [oR aA hx1,oV (dE G hx2),oR aA hx3,oV (dE G hx4)] [6,7,12,13,14,15,16,17,18,19,20,21,22,23] [(6,vI x2),(7,vI x4)] (qs (aU hC [oN aA l.lo] (fr 24 4) [(25,vM aA l.lo),(26,vI (l.lo.length:Int)),(27,vI 0)] (qb (gY h (fun x_=>dA [(1,vM rI point),(2,V.tp (oB l)),(6,vI x_.1),(7,vI x4),(25,vM aA l.lo),(26,vI (l.lo.length:Int)),(27,vI x_.2)]) lS ?_))));rintro again7 ⟨x5,x6⟩ h;refine aE hC [28] [(28,vK x6 l.lo)] (N5 h (fun c1 h=>?_) fun c1 h=>?_)
 ·refine qk (dX ?_);obtain⟨x8,hx8,h⟩:=bd h;refine rq hC [oR aA hx8,.z (.nat 20)] [9,29,30] [(9,V.ref 20 0)] [(20,some (E.cells (cH x8)))] [(20,true)] ?_;obtain⟨x9,hx9,h⟩:=bd h;exact bL hC [oV (dE G hx9)] [6,31,32,33,34,35] [(6,vI (max x5 x9))] (bE hC [27,36] [(27,vI (wr (x6+1)))] (lE h))
 refine dT (qs (aU hC [oN aA l.hi] (fr 37 4) [(38,vM aA l.hi),(39,vI (l.hi.length:Int)),(40,vI 0)] (qb (gY h (fun x_=>dA [(1,vM rI point),(6,vI x5),(7,vI x_.1),(38,vM aA l.hi),(39,vI (l.hi.length:Int)),(40,vI x_.2)]) lS ?_))));rintro again12 ⟨x10,x11⟩ h;refine aE hC [41] [(41,vK x11 l.hi)] (N5 h (fun c2 h=>?_) fun c2 h=>?_)
 ·refine qk (dX ?_);obtain⟨x13,hx13,h⟩:=bd h;refine rq hC [oR aA hx13,.z (.nat 20)] [11,42,43] [(11,V.ref 20 0)] [(20,some (E.cells (cH x13)))] [(20,true)] ?_;obtain⟨x14,hx14,h⟩:=bd h;exact bL hC [oV (dE G hx14)] [7,44,45,46,47,48] [(7,vI (min x10 x14))] (bE hC [40,49] [(40,vI (wr (x11+1)))] (lE h))
 cases h;exact dT (aE hC [4,5,50,51] [(4,vI x5),(5,vI x10)] zr)
theorem wD(G:GS): ∀(n:Nat) (w_a0:Walking) (w_a0G2:Nat) (point:List Int) {r:Bool×Walking} (h:i_walking_walk n w_a0 point=some r),VQ G 162 [E.cells [vM aH w_a0.nest,vI w_a0.steps,ms 1 w_a0G2 1 (rL rI) w_a0.out],ar 39 w_a0G2 1 (rL rI) w_a0.out] [V.ref 0 0,vM rI point] (vB r.1) [E.cells [vM aH r.2.nest,vI r.2.steps,ms 1 (w_a0G2+1) 1 (rL rI) r.2.out],ar 39 (w_a0G2+1) 1 (rL rI) r.2.out]:=by
 intro n;induction n with
 |zero=>intro w_a0 w_a0G2 point r h;rw [i_walking_walk.eq_def] at h;cases h
 |succ n ih=>
  intro w_a0 w_a0G2 point r h;rw [i_walking_walk.eq_def] at h;dsimp only at h;refine vq aR Tryz.func162 rfl fun w X β0 hC hg=>bC hC [4] (qs (aU hC [oN rI point,oN aH w_a0.nest] (fr 8 8) [(15,vD ((point.length:Int)=(w_a0.nest.length:Int)))] (aX h (fun c1 h=>?_) fun c1 h=>?_)))
  ·refine qs ?_;obtain⟨x1,hx1,x2,hx2,h⟩:=gH h;cases h;exact dkt hC dB [oC [] [20] (G.clone point hx1),.z (.at 5),.z (.fz 20 [22] []),.z (.int 0),oA (dJ (rL rI) hx2),oQ (rwM (r:=(rL rI)) 1 (fun _=>rfl) w_a0.out),oQ (rwM (r:=(rL rI)) 1 (fun _=>rfl) [x1])] (fr 16 11) [(20,none),(1,some (ar 39 (w_a0G2+1) 1 (rL rI) x2)),(0,sc [vM aH w_a0.nest,vI w_a0.steps,ms 1 (w_a0G2+1) 1 (rL rI) x2])] [(20,true)] (aU hC [oN (rL rI) x2] [4,27,28,29,30,31,32] [(4,vD ((x2.length:Int)≤120))] (qw (pU 0 2 1 w_a0G2 (w_a0G2+1) 1 0 (List.map (rL rI) x2).length (e:= .arr 39 (w_a0G2+1) 1 (List.map (rL rI) x2)) (cs:=[vM aH w_a0.nest,vI w_a0.steps,ms 1 (w_a0G2+1) 1 (rL rI) x2]) rfl (by kernel_rfl) (by kernel_rfl) (by kernel_rfl) (by kernel_rfl) rfl rfl hg.2.1) zw))
  refine qk ?_;obtain⟨x3,hx3,x4,hx4,h⟩:=gH h;refine aU hC [oN rI point,oR aH hx3,oV (H0 G hx4)] [5,6,33,34,35,36,37,38,39,40,41,42,43,44,45] [(5,vI x4.1),(6,vI x4.2)] (qs (aE hC [7,46] [(7,vI x4.1)] (qb (yH h (fun x_ g_=>f8 [(0,V.ref 0 0),(1,vM rI point),(6,vI x4.2),(7,vI x_.2.2.2)] [(0,E.cells [vM aH x_.1,vI x_.2.1,ms 1 g_ 1 (rL rI) x_.2.2.1]),(1,ar 39 g_ 1 (rL rI) x_.2.2.1)] [0,1]) w_a0G2 (lS) ?_))));rintro again10 ⟨x5,x6,x7,x8⟩ g9 h;refine qs (aE hC [47,48,49] [(49,vD (x8<x4.2))] (aX h (fun c2 h=>?_) fun c2 h=>?_))
  ·refine qk (dX (pA hC (fr 52 7) [(0,sc [vM aH x5,vI (wr (x6+1)),ms 1 g9 1 (rL rI) x7])] [] ?_));obtain⟨j11,hj11,h⟩:=aIF h;refine aAz (γ:=Nat) (j:=j11) (r:=r) (fun x_ g_=>f8 [(0,V.ref 0 0),(1,vM rI point),(6,vI x4.2),(7,vI x8),(74,vB x_.2.2.2)] [(0,E.cells [vM aH x_.1,vI x_.2.1,ms 1 g_ 1 (rL rI) x_.2.2.1]),(1,ar 39 g_ 1 (rL rI) x_.2.2.1)] [0,1]) ?_ ?_
   ·refine aZ h (fun c3 h=>?_) fun c3 h=>bL hC (rT 9 c3) (fr 59 16) [(74,vB true)] ⟨(x5,wr (x6+1),x7,true),g9,h,lS⟩;obtain⟨x12,hx12,x13,hx13,x14,hx14,h⟩:=wF h;exact rk hC (rF 3 c3++[oC [] [20] (G.clone point hx12),oF c3,oF c3,.z (.int 0),oF c3,oA (dJ rI hx13),.z (.at 3),.z (.fz 20 [71] []),oI x12,oI [x8],oF c3,oC [0,1] [] (ih (⟨x5,wr (x6+1),x7⟩:Walking) g9 x13 hx14),oF c3,oF c3]) (fr 59 16) [(74,vB (!x14.1))] [(20,none),(1,some (ar 39 (g9+1) 1 (rL rI) x14.2.out)),(0,sc [vM aH x14.2.nest,vI x14.2.steps,ms 1 (g9+1) 1 (rL rI) x14.2.out])] [(20,true),(0,true),(1,true)] ⟨(x14.2.nest,x14.2.steps,x14.2.out, !x14.1),(g9+1),h,lS⟩
   rintro⟨x15,x16,x17,x18⟩ g19 h;subst hj11;refine aX h (fun c4 h=>?_) fun c4 h=>qk (bE hC [7,50,51] [(7,vI (wr (x8+1)))] ⟨(x15,x16,x17,wr (x8+1)),g19,h,lS⟩);cases h;exact aE hC [4] [(4,vB false)] (qw (pU 0 2 1 w_a0G2 g19 1 0 (List.map (rL rI) x17).length (e:= .arr 39 g19 1 (List.map (rL rI) x17)) (cs:=[vM aH x15,vI x16,ms 1 g19 1 (rL rI) x17]) rfl (by kernel_rfl) (by kernel_rfl) (by kernel_rfl) (by kernel_rfl) rfl rfl hg.2.1) zw)
  cases h;exact dT (aE hC [4] [(4,vB true)] (qw (pU 0 2 1 w_a0G2 g9 1 0 (List.map (rL rI) x7).length (e:= .arr 39 g9 1 (List.map (rL rI) x7)) (cs:=[vM aH x5,vI x6,ms 1 g9 1 (rL rI) x7]) rfl (by kernel_rfl) (by kernel_rfl) (by kernel_rfl) (by kernel_rfl) rfl rfl hg.2.1) zw))
theorem C8{nest}{r}(h:jU n nest=some r):VQ G 120 [] [vM aH nest] (V.tup [ms 0 1 1 (rL rI) r.1,vB r.2]) [ar 39 1 1 (rL rI) r.1]:=by
 refine vq aR Tryz.func120 rfl fun w X β0 hC hg=>bC hC [2,3] (qs ?_);obtain⟨x1,hx1,h⟩:=bd h;refine aU hC [oV (G9 G hx1)] [5,6,7] [(7,vB (!x1))] (aX h (fun c1 h=>?_) fun c1 h=>?_)
 ·cases h;exact aE hC [2,3] [(2,fH),(3,vB false)] (qw (lk hC [.grow 2 0 39] [2] [(2,ms 0 1 1 (rL rI) [])] [(0,some (ar 39 1 1 (rL rI) []))] [(0,true)]) zw)
 refine qk (rq hC [.z (.nat 20)] [4,8,9,10] [(4,V.ref 20 0)] [(20,sc [vM aH nest,vI 0,fH])] [(20,true)] (qs ?_));obtain⟨x2,hx2,h⟩:=bd h;refine rq hC [.z (.at 2),.z (.growc 20 2 21 39),oC [20,21] [] (wD G n (⟨nest,0,[]⟩:Walking) 1 [] hx2)] [11,12,13] [(13,vB (!x2.1))] [(21,some (ar 39 2 1 (rL rI) x2.2.out)),(20,sc [vM aH x2.2.nest,vI x2.2.steps,ms 21 2 1 (rL rI) x2.2.out])] [(21,true),(20,true),(21,true)] (aX h (fun c2 h=>?_) fun c2 h=>?_)
 ·cases h;exact aE hC [2,3] [(2,fH),(3,vB false)] (qw (lk hC [.grow 2 0 39] [2] [(2,ms 0 1 1 (rL rI) [])] [(0,some (ar 39 1 1 (rL rI) []))] [(0,true)]) zw)
 cases h;exact qk (aE hC [2,3,14,15,16,17] [(2,ms 21 2 1 (rL rI) x2.2.out),(3,vB true)] (xR hC 2 21 (ms 0 1 1 (rL rI) x2.2.out) (ar 39 1 1 (rL rI) x2.2.out)))
theorem C5(G:GS)(n:Nat)(s:Affine)(c0__a1:Int){r:Bool}(h:gT n s c0__a1=some r):PQ G 196 [V.agg (cH s),V.tp [T.int .i64 c0__a1]] (vB r):=by
 refine pq aR Tryz.func196 rfl fun w X hC=>aU hC [.z (.b (true))] [2,3] [(2,V.tp (bZ s))] (vj h (fun x_=>dA [(3,vB x_)]) (fun j1 h=>?_) fun x4 h=>?_)
 ·obtain⟨x2,hx2,h⟩:=bd h;refine aZ h (fun c1 h=>?_) fun c1 h=>pI hC dB ([oV (cL G hx2)]++rT 5 c1) (fr 3 10) [(3,vB true)] (lE h);obtain⟨x3,hx3,h⟩:=bd h;exact pI hC dB ([oV (cL G hx2),oF c1,oF c1,oV (fN G hx3)]++rF 3 c1) (fr 3 10) [(3,vD (c0__a1<x3))] (lE h)
 obtain rfl:=so h;exact zr
theorem jZ{a}{depth}{r}(h:lK n a depth=some r):PQ G 164 [V.agg (eM a),vI depth] (vB r):=by
 refine pq aR Tryz.func164 rfl fun w X hC=>aU hC [.z (.b (true)),.z (.b (true))] [2,3,4] [(2,V.tp (cP a)),(3,V.tp [T.int .i64 depth])] (vj h (fun x_=>dA [(4,vB x_)]) (fun j1 h=>?_) fun x5 h=>?_)
 ·obtain⟨x2,hx2,h⟩:=bd h;refine aZ h (fun c1 h=>bL hC ([oV (dI G hx2)]++rF 5 c1++sF 6) (fr 4 17) [(4,vB false)] (lE h)) fun c1 h=>?_;obtain⟨x3,hx3,h⟩:=bd h;refine aZ h (fun c2 h=>bL hC ([oV (dI G hx2)]++rT 3 c1++[oN aA a.subs,oT c1,oV (bB G hx3),oT c1]++rF 6 c2) (fr 4 17) [(4,vB false)] (lE h)) fun c2 h=>?_;obtain⟨x4,hx4,h⟩:=bd h;exact bL hC ([oV (dI G hx2)]++rT 3 c1++[oN aA a.subs,oT c1,oV (bB G hx3),oT c1]++rT 4 c2++[oV (e9 G n a.subs 196 [T.int .i64 depth] (fun q0=>gT n q0 depth) (fun q0 r h=>C5 G n q0 depth h) hx4),oT c2,oT c2]) (fr 4 17) [(4,vB (!x4))] (lE h)
 obtain rfl:=so h;exact zr
theorem fM{a}{r}(h:lG n a=some r):PQ G 199 [V.agg (cH a)] (vB r):=by refine pq aR Tryz.func199 rfl fun w X hC=>aU hC [.z (.b (true))] [1,2] [(1,V.tp (bZ a))] (vj h (fun x_=>dA [(2,vB x_)]) (fun j1 h=>aZ h (fun c1 h=>bL hC ([oN rI a.coefs]++rF 4 c1) (fr 2 10) [(2,vB false)] (lE h)) fun c1 h=>bL hC ([oN rI a.coefs]++rT 4 c1) (fr 2 10) [(2,vD (a.const=0))] (lE h)) fun x2 h=>?_);obtain rfl:=so h;exact zr
theorem jY{a}{r}(h:gB n a=some r):PQ G 200 [V.agg (eM a)] (vB r):=by refine pq aR Tryz.func200 rfl fun w X hC=>aU hC [.z (.b (true))] [1,2] [(1,V.tp (cP a))] (vj h (fun x_=>dA [(2,vB x_)]) (fun j1 h=>aZ h (fun c1 h=>bL hC (rF 5 c1) (fr 2 10) [(2,vB false)] (lE h)) fun c1 h=>bL hC (rT 3 c1++[oN aA a.subs,oT c1,oT c1]) (fr 2 10) [(2,vD ((a.subs.length:Int)=0))] (lE h)) fun x2 h=>?_);obtain rfl:=so h;exact zr
theorem Z6{kind}{r}(h:O6 n kind=some r):PQ G 201 [vI kind] (vB r):=by refine pq aR Tryz.func201 rfl fun w X hC=>bC hC [2] ?_;obtain⟨x1,hx1,h⟩:=bd h;obtain rfl:=so h;exact aU hC [oV (bB G hx1)] [2,3,4] [(2,vB x1)] zr
theorem R6(G:GS): ∀(n:Nat) (e:Expr) (depth:Int) (deep:Int) (count:Int) {r:Bool×Int} (h:i_exprScan n e depth deep count=some r),VQ G 165 [E.cells [vI count]] [V.agg (jA e),vI depth,vI deep,V.ref 0 0] (vB r.1) [E.cells [vI r.2]]:=by
 intro n;induction n with
 |zero=>intro e depth deep count r h;rw [i_exprScan.eq_def] at h;cases h
 |succ n ih=>
  intro e depth deep count r h;rw [i_exprScan.eq_def] at h;dsimp only at h;refine vq aR Tryz.func165 rfl fun w X β0 hC hg=>aU hC [.z (.b (true))] [4,8] [(4,V.tp (fO e))] (pA hC (fr 9 5) [(0,sc [vI (wr (count+1))])] [] (qs (vj h (fun x_=>f8 [(1,vI depth),(2,vI deep),(3,V.ref 0 0),(4,V.tp (fO e)),(21,vB x_)] [(0,E.cells [vI (wr (count+1))])] [0]) (fun j1 h=>aZ h (fun c1 h=>bL hC (rF 3 c1) (fr 14 8) [(21,vD ((5:Int)<deep))] (lE h)) fun c1 h=>bL hC (rT 3 c1) (fr 14 8) [(21,vB true)] (lE h)) fun x2 h=>?_)));refine aX h (fun c2 h=>?_) fun c2 h=>?_
  ·cases h;exact aE hC [8] [(8,vB false)] zw
  refine qk (qs (vj h (fun x_=>f8 [(1,vI depth),(2,vI deep),(3,V.ref 0 0),(4,V.tp (fO e)),(51,vB x_)] [(0,E.cells [vI (wr (count+1))])] [0]) (fun j3 h=>?_) fun x10 h=>?_))
  ·refine aZ h (fun c3 h=>?_) fun c3 h=>?_
   ·refine aZ h (fun c4 h=>?_) fun c4 h=>?_
    ·refine aZ h (fun c5 h=>bL hC (rF 4 c3++sF 4++rF 4 c4++[eF,oF c4]++sF 5++rF 4 c5++[eF,oF c5,eF]) (fr 22 30) [(51,vB false)] (lE h)) fun c5 h=>?_;obtain⟨x4,hx4,h⟩:=bd h;exact bL hC (rF 4 c3++sF 4++rF 4 c4++[eF,oF c4]++sF 5++rT 3 c5++[oV (jY G hx4),oT c5,eF,oT c5,eF]) (fr 22 30) [(51,vB (!x4))] (lE h)
    obtain⟨x5,hx5,h⟩:=bd h;refine aZ h (fun c6 h=>?_) fun c6 h=>bL hC (rF 4 c3++sF 4++rT 3 c4++[oV (fM G hx5),oT c4,eF,oT c4,eF]++rT 6 c6) (fr 22 30) [(51,vB true)] (lE h);refine aZ h (fun c7 h=>bL hC (rF 4 c3++sF 4++rT 3 c4++[oV (fM G hx5),oT c4,eF,oT c4,eF]++rF 4 c6++rF 4 c7++[oF c6,oF c7,oF c6]) (fr 22 30) [(51,vB false)] (lE h)) fun c7 h=>?_;obtain⟨x6,hx6,h⟩:=bd h;exact bL hC (rF 4 c3++sF 4++rT 3 c4++[oV (fM G hx5),oT c4,eF,oT c4,eF]++rF 4 c6++rT 3 c7++[oV (jY G hx6),oT c7,oF c6,oT c7,oF c6]) (fr 22 30) [(51,vB (!x6))] (lE h)
   refine aZ h (fun c8 h=>?_) fun c8 h=>bL hC (rT 4 c3++rT 6 c8++sT 6) (fr 22 30) [(51,vB true)] (lE h);refine aZ h (fun c9 h=>?_) fun c9 h=>?_
   ·refine aZ h (fun c10 h=>bL hC (rT 4 c3++rF 4 c8++rF 4 c9++[oF c8,oF c9,oF c8]++sF 4++rF 4 c10++[eF,oF c10,eF]) (fr 22 30) [(51,vB false)] (lE h)) fun c10 h=>?_;obtain⟨x7,hx7,h⟩:=bd h;exact bL hC (rT 4 c3++rF 4 c8++rF 4 c9++[oF c8,oF c9,oF c8]++sF 4++rT 3 c10++[oV (jY G hx7),oT c10,eF,oT c10,eF]) (fr 22 30) [(51,vB (!x7))] (lE h)
   obtain⟨x8,hx8,h⟩:=bd h;refine aZ h (fun c11 h=>?_) fun c11 h=>bL hC (rT 4 c3++rF 4 c8++rT 3 c9++[oV (fM G hx8),oT c9,oF c8,oT c9,oF c8]++rT 6 c11) (fr 22 30) [(51,vB true)] (lE h);refine aZ h (fun c12 h=>bL hC (rT 4 c3++rF 4 c8++rT 3 c9++[oV (fM G hx8),oT c9,oF c8,oT c9,oF c8]++rF 4 c11++rF 4 c12++[oF c11,oF c12,oF c11]) (fr 22 30) [(51,vB false)] (lE h)) fun c12 h=>?_;obtain⟨x9,hx9,h⟩:=bd h;exact bL hC (rT 4 c3++rF 4 c8++rT 3 c9++[oV (fM G hx8),oT c9,oF c8,oT c9,oF c8]++rF 4 c11++rT 3 c12++[oV (jY G hx9),oT c12,oF c11,oT c12,oF c11]) (fr 22 30) [(51,vB (!x9))] (lE h)
  refine aX h (fun c13 h=>?_) fun c13 h=>?_
  ·cases h;exact aE hC [8] [(8,vB false)] zw
  refine qk (dX (aE hC (fr 52 4) [(52,vD (e.kind=1))] (aX h (fun c14 h=>?_) fun c14 h=>?_)))
  ·refine vj h (fun x_=>f8 [(8,vB x_)] [(0,E.cells [vI (wr (count+1))])] [0]) (fun j11 h=>?_) fun x13 h=>?_
   ·obtain⟨x12,hx12,h⟩:=bd h;exact aZ h (fun c15 h=>bL hC ([oV (bB G hx12)]++rF 5 c15) [8,56,57,58,59,60,61,62,63,64] [(8,vB false)] (lE h)) fun c15 h=>bL hC ([oV (bB G hx12)]++rT 3 c15++[oN aC e.kids,oT c15,oT c15]) [8,56,57,58,59,60,61,62,63,64] [(8,vD ((e.kids.length:Int)=0))] (lE h)
   cases h;exact zw
  refine aE hC (fr 65 4) [(65,vD (e.kind=2))] (aX h (fun c16 h=>?_) fun c16 h=>?_)
  ·refine vj h (fun x_=>f8 [(8,vB x_)] [(0,E.cells [vI (wr (count+1))])] [0]) (fun j14 h=>?_) fun x17 h=>?_
   ·obtain⟨x15,hx15,h⟩:=bd h;refine aZ h (fun c17 h=>bL hC ([oV (cL G hx15)]++rF 6 c17++sF 5) [8,69,70,71,72,73,74,75,76,77,78,79,80,81,82,83,84] [(8,vB false)] (lE h)) fun c17 h=>?_;obtain⟨x16,hx16,h⟩:=bd h;refine aZ h (fun c18 h=>bL hC ([oV (cL G hx15)]++rT 3 c17++[oV (fN G hx16)]++rT 3 c17++rF 5 c18) [8,69,70,71,72,73,74,75,76,77,78,79,80,81,82,83,84] [(8,vB false)] (lE h)) fun c18 h=>?_;exact bL hC ([oV (cL G hx15)]++rT 3 c17++[oV (fN G hx16)]++rT 3 c17++rT 3 c18++[oN aC e.kids,oT c18,oT c18]) [8,69,70,71,72,73,74,75,76,77,78,79,80,81,82,83,84] [(8,vD ((e.kids.length:Int)=0))] (lE h)
   cases h;exact zw
  refine aE hC (fr 85 4) [(85,vD (e.kind=3))] (aX h (fun c19 h=>?_) fun c19 h=>?_)
  ·refine vj h (fun x_=>f8 [(8,vB x_)] [(0,E.cells [vI (wr (count+1))])] [0]) (fun j18 h=>?_) fun x20 h=>?_
   ·obtain⟨x19,hx19,h⟩:=bd h;exact aZ h (fun c20 h=>bL hC ([oV (jZ G hx19)]++rF 5 c20) [8,89,90,91,92,93,94,95,96,97,98] [(8,vB false)] (lE h)) fun c20 h=>bL hC ([oV (jZ G hx19)]++rT 3 c20++[oN aC e.kids,oT c20,oT c20]) [8,89,90,91,92,93,94,95,96,97,98] [(8,vD ((e.kids.length:Int)=0))] (lE h)
   cases h;exact zw
  refine vj h (fun x_=>f8 [(1,vI depth),(2,vI deep),(3,V.ref 0 0),(4,V.tp (fO e)),(99,vB x_)] [(0,E.cells [vI (wr (count+1))])] [0]) (fun j21 h=>?_) fun x23 h=>?_
  ·obtain⟨x22,hx22,h⟩:=bd h;exact aZ h (fun c21 h=>bL hC ([oV (Z6 G hx22)]++rF 3 c21++[oN aC e.kids,oF c21,oF c21]) (fr 99 11) [(99,vB (!decide ((e.kids.length:Int)=2)))] (lE h)) fun c21 h=>bL hC ([oV (Z6 G hx22)]++rT 5 c21) (fr 99 11) [(99,vB true)] (lE h)
  refine aX h (fun c22 h=>?_) fun c22 h=>?_
  ·cases h;exact aE hC [8] [(8,vB false)] zw
  refine qk (vj h (fun x_=>f8 [(8,vB x_.2)] [(0,E.cells [vI x_.1])] [0]) (fun j24 h=>?_) ?_)
  ·obtain⟨x25,hx25,x26,hx26,h⟩:=gH h;refine aZ h (fun c23 h=>?_) fun c23 h=>?_
   ·exact rk hC ([.z (.row (bI x25)),oQ (dY aC hx25 (aL x25)),oC [0] [] (ih x25 depth (wr (deep+1)) (wr (count+1)) hx26)]++rF 10 c23) [8,110,111,112,113,114,115,116,117,118,119,120,121,122,123,124,125,126,127,128,129] [(8,vB false)] [(0,sc [vI x26.2])] [(0,true)] (lE h)
   obtain⟨x27,hx27,x28,hx28,h⟩:=gH h;exact rk hC ([.z (.row (bI x25)),oQ (dY aC hx25 (aL x25)),oC [0] [] (ih x25 depth (wr (deep+1)) (wr (count+1)) hx26)]++rT 3 c23++[.z (.row (bI x27)),oQ (dY aC hx27 (aL x27))]++rT 6 c23++[oC [0] [] (ih x27 depth (wr (deep+1)) x26.2 hx28),oT c23]) [8,110,111,112,113,114,115,116,117,118,119,120,121,122,123,124,125,126,127,128,129] [(8,vB x28.1)] [(0,sc [vI x28.2])] [(0,true),(0,true)] (lE h)
  rintro⟨x29,x30⟩ h;cases h;exact zw
theorem G8{s}{depth}{r}(h:mD n s depth=some r):PQ G 123 [V.agg (jH s),vI depth] (vB r):=by
 refine pq aR Tryz.func123 rfl fun w X hC=>aU hC [.z (.b (true))] [2,4] [(2,V.tp (n9 s))] (rq hC [.z (.nat 20)] [5] [(5,V.ref 20 0)] [(20,sc [vI 0])] [(20,true)] (vj h (fun x_=>f8 [(4,vB x_.2)] [(20,E.cells [vI x_.1])] [20]) (fun j1 h=>?_) ?_))
 ·obtain⟨x2,hx2,h⟩:=bd h;refine aZ h (fun c1 h=>bL hC ([oV (bB G hx2)]++rF 5 c1++sF 5) [4,6,7,8,9,10,11,12,13,14,15,16,17,18,19] [(4,vB false)] (lE h)) fun c1 h=>?_;obtain⟨x3,hx3,h⟩:=bd h;refine aZ h (fun c2 h=>bL hC ([oV (bB G hx2)]++rT 4 c1++[oV (jZ G hx3),oT c1]++rF 5 c2) [4,6,7,8,9,10,11,12,13,14,15,16,17,18,19] [(4,vB false)] (lE h)) fun c2 h=>?_;obtain⟨x4,hx4,h⟩:=bd h;exact rk hC ([oV (bB G hx2)]++rT 4 c1++[oV (jZ G hx3),oT c1]++rT 4 c2++[oC [20] [] (R6 G n s.value depth 1 0 hx4),oT c2]) [4,6,7,8,9,10,11,12,13,14,15,16,17,18,19] [(4,vB x4.1)] [(20,sc [vI x4.2])] [(20,true)] (lE h)
 rintro⟨x5,x6⟩ h;obtain rfl:=so h;exact zr
theorem nA(G:GS)(n:Nat)(s:Stmt)(c0__a1:Part){r:Bool}(h:cB n s c0__a1=some r):PQ G 122 [V.agg (jH s),V.tp (jG c0__a1)] (vB r):=by refine pq aR Tryz.func122 rfl fun w X hC=>aU hC [.z (.b (true))] [2,3] [(2,V.tp (n9 s))] ?_;obtain⟨x1,hx1,h⟩:=bd h;cases h;exact aU hC [oN aH c0__a1.nest,oV (G8 G hx1)] (fr 3 7) [(3,vB (!x1))] zr
theorem G7(G:GS)(n:Nat)(n_a0:Int){r:Bool}(h:iY n n_a0=some r):PQ G 166 [vI n_a0] (vB r):=by refine pq aR Tryz.func166 rfl fun w X hC=>bC hC [2] ?_;obtain⟨x1,hx1,h⟩:=bd h;cases h;exact aU hC [oV (bB G hx1)] (fr 2 4) [(2,vB (!x1))] zr
theorem Z4{point}{r}(h:qM n point=some r):PQ G 124 [vM rI point] (vB r):=by
 refine pq aR Tryz.func124 rfl fun w X hC=>bC hC [2] (vj h (fun x_=>dA [(2,vB x_)]) (fun j1 h=>?_) fun x3 h=>?_)
 ·refine aZ h (fun c1 h=>bL hC ([oN rI point]++rF 4 c1) (fr 2 9) [(2,vB false)] (lE h)) fun c1 h=>?_;obtain⟨x2,hx2,h⟩:=bd h;exact bL hC [oN rI point,oT c1,oT c1,oV (cG G n point 166 (fun q0=>iY n q0) (fun q0 r h=>G7 G n q0 h) hx2),oT c1,oT c1] (fr 2 9) [(2,vB (!x2))] (lE h)
 obtain rfl:=so h;exact zr
theorem oU(G:GS)(n:Nat)(s:List Stmt)(fF:FuncId)(fC0:List T)(f:Stmt→Option Bool)(hf: ∀(q0:Stmt) r,f q0=some r→PQ G fF [V.agg (jH q0),V.tp fC0] (vB r)){r:Int}(h:iF n s f=some r):PQ G 163 [vM aG s,V.fn fF [V.tp fC0]] (vI r):=by
 refine pq aR Tryz.func163 rfl fun w X hC=>bC hC [4] (qs (aU hC [oN aG s] [6,7,8] [(7,vI (s.length:Int)),(8,vI 0)] (qb (gY h (fun x_=>dA [(0,vM aG s),(1,V.fn fF [V.tp fC0]),(7,vI (s.length:Int)),(8,vI x_)]) lS ?_))));rintro again2 x1 h;refine aE hC [9] [(9,vK x1 s)] (N5 h (fun c1 h=>?_) fun c1 h=>?_)
 ·refine qk (dX (aE hC [5,10] [(5,vI x1)] ?_));obtain⟨x3,hx3,x4,hx4,h⟩:=gH h;refine aU hC [oR aG hx3,oV (hf x3 _ hx4)] (fr 11 6) [(16,vB x4)] (aX h (fun c2 h=>?_) fun c2 h=>qk (bE hC [8,18] [(8,vI (wr (x1+1)))] (lE h)));obtain rfl:=so h;exact aE hC [4,17] [(4,vI x1)] zr
 obtain rfl:=so h;exact dT (aE hC [4] [(4,vI (-1))] zr)
theorem mR(G:GS)(n:Nat)(s:List Stmt)(fF:FuncId)(fC0:List T)(f:Stmt→Option Bool)(hf: ∀(q0:Stmt) r,f q0=some r→PQ G fF [V.agg (jH q0),V.tp fC0] (vB r)){r:Bool}(h:dQ n s f=some r):PQ G 121 [vM aG s,V.fn fF [V.tp fC0]] (vB r):=by refine pq aR Tryz.func121 rfl fun w X hC=>bC hC [4] ?_;obtain⟨x1,hx1,h⟩:=bd h;cases h;exact aU hC [oV (oU G n s fF fC0 f hf hx1)] (fr 4 5) [(4,vD ((0:Int)≤x1))] zr
theorem eH{p}{r}(h:bQ n p=some r):VQ G 80 [] [V.agg (eL p)] (V.tup [ms 0 1 3 aY r.1,vB r.2]) [ar 72 1 3 aY r.1]:=by
 refine vq aR Tryz.func80 rfl fun w X β0 hC hg=>aU hC [.z (.b (true))] [1,2,3] [(1,V.tp (bO p))] (qs (vj h (fun x_=>dA [(1,V.tp (bO p)),(22,vB x_)]) (fun j1 h=>?_) fun x3 h=>?_))
 ·obtain⟨x2,hx2,h⟩:=bd h;exact aZ h (fun c1 h=>bL hC ([oV (t6 G hx2)]++rF 3 c1++[oN aJ p.parts,oF c1,oF c1]) (fr 13 10) [(22,vD ((4:Int)<(p.parts.length:Int)))] (lE h)) fun c1 h=>bL hC ([oV (t6 G hx2)]++rT 5 c1) (fr 13 10) [(22,vB true)] (lE h)
 refine aX h (fun c2 h=>?_) fun c2 h=>?_
 ·cases h;exact aE hC [2,3] [(2,fH),(3,vB false)] (qw (lk hC [.grow 2 0 72] [2] [(2,ms 0 1 3 aY [])] [(0,some (ar 72 1 3 aY []))] [(0,true)]) zw)
 refine qk (aE hC [4] [(4,fH)] (qs (aU hC [oN aJ p.parts] (fr 23 4) [(24,vM aJ p.parts),(25,vI (p.parts.length:Int)),(26,vI 0)] (qb (qw (lk hC [.grow 4 20 72] [4] [(4,ms 20 1 3 aY [])] [(20,some (ar 72 1 3 aY []))] [(20,true)]) ?_)))));refine yH h (fun x_ g_=>f8 [(1,V.tp (bO p)),(4,ms 20 g_ 3 aY x_.1),(24,vM aJ p.parts),(25,vI (p.parts.length:Int)),(26,vI x_.2)] [(20,ar 72 g_ 3 aY x_.1)] [20]) 1 (lS) ?_;rintro again7 ⟨x4,x5⟩ g6 h;refine aE hC [27] [(27,vK x5 p.parts)] (N5 h (fun c3 h=>?_) fun c3 h=>?_)
 ·refine qk (dX ?_);obtain⟨x8,hx8,h⟩:=bd h;refine rq hC [oR aJ hx8,.z (.nat 21),.z (.at 0),.z (.fp 21 [6])] [5,6,28,29,30] [(5,vI x5),(6,V.tp (jG x8))] [(21,none)] [(21,true)] ?_;obtain⟨x9,hx9,h⟩:=bd h;refine rq hC [oC [] [22] (C8 G hx9)] [7,8,31,32,33,34,35,36] [(7,ms 22 1 1 (rL rI) x9.1),(8,vB x9.2)] [(22,some (ar 39 1 1 (rL rI) x9.1))] [(22,true)] (qs (vj h (fun x_=>f8 [(1,V.tp (bO p)),(4,ms 20 g6 3 aY x4),(5,vI x5),(6,V.tp (jG x8)),(7,ms 22 1 1 (rL rI) x9.1),(24,vM aJ p.parts),(25,vI (p.parts.length:Int)),(26,vI x5),(51,vB x_)] [(20,ar 72 g6 3 aY x4),(22,ar 39 1 1 (rL rI) x9.1)] [20,21,22]) (fun j10 h=>?_) fun x13 h=>?_))
  ·refine aZ h (fun c4 h=>?_) fun c4 h=>bL hC (rT 6 c4++sT 5) (fr 37 15) [(51,vB true)] (lE h);obtain⟨x11,hx11,h⟩:=bd h;refine aZ h (fun c5 h=>?_) fun c5 h=>bL hC (rF 3 c4++[oN aG x8.body,oF c4,oV (bB G hx11),oF c4,oF c4]++rT 5 c5) (fr 37 15) [(51,vB true)] (lE h);obtain⟨x12,hx12,h⟩:=bd h;exact bL hC (rF 3 c4++[oN aG x8.body,oF c4,oV (bB G hx11),oF c4,oF c4]++rF 4 c5++[oV (mR G n x8.body 122 (jG x8) (fun q0=>cB n q0 x8) (fun q0 r h=>nA G n q0 x8 h) hx12),oF c5]) (fr 37 15) [(51,vB x12)] (lE h)
  refine aX h (fun c6 h=>?_) fun c6 h=>?_
  ·cases h;exact aE hC [2,3] [(2,fH),(3,vB false)] (qw (lk hC [.grow 2 0 72] [2] [(2,ms 0 1 3 aY [])] [(0,some (ar 72 1 3 aY []))] [(0,true)]) zw)
  refine qk (aU hC [oN (rL rI) x9.1] [52,53,54] [(52,ms 22 1 1 (rL rI) x9.1),(53,vI (x9.1.length:Int)),(54,vI 0)] (qb (yH h (fun x_ g_=>f8 [(1,V.tp (bO p)),(4,ms 20 g_ 3 aY x_.1),(5,vI x5),(6,V.tp (jG x8)),(24,vM aJ p.parts),(25,vI (p.parts.length:Int)),(26,vI x5),(52,ms 22 1 1 (rL rI) x9.1),(53,vI (x9.1.length:Int)),(54,vI x_.2)] [(20,ar 72 g_ 3 aY x_.1),(22,ar 39 1 1 (rL rI) x9.1)] [20,21,22]) g6 (lS) ?_)));rintro again17 ⟨x14,x15⟩ g16 h;refine aE hC [55] [(55,vK x15 x9.1)] (N5 h (fun c7 h=>?_) fun c7 h=>dT (bE hC [26,84] [(26,vI (wr (x5+1)))] ⟨(x14,wr (x5+1)),g16,h,lS⟩));refine qk (dX ?_);obtain⟨x18,hx18,h⟩:=bd h;refine aU hC [oQ (lV (rL rI) hx18),oX (rL rI) hx18] [10,56,57] [(10,vM rI x18)] (qs ?_);obtain⟨x19,hx19,h⟩:=bd h;refine aU hC [oV (Z4 G hx19)] [58,59,60] [(60,vB (!x19))] (aX h (fun c8 h=>?_) fun c8 h=>?_)
  ·cases h;exact aE hC [2,3] [(2,fH),(3,vB false)] (qw (lk hC [.grow 2 0 72] [2] [(2,ms 0 1 3 aY [])] [(0,some (ar 72 1 3 aY []))] [(0,true)]) zw)
  refine qk (aU hC [oN aG x8.body] (fr 61 4) [(62,vM aG x8.body),(63,vI (x8.body.length:Int)),(64,vI 0)] (qb (yH h (fun x_ g_=>f8 [(1,V.tp (bO p)),(4,ms 20 g_ 3 aY x_.1),(5,vI x5),(6,V.tp (jG x8)),(10,vM rI x18),(24,vM aJ p.parts),(25,vI (p.parts.length:Int)),(26,vI x5),(52,ms 22 1 1 (rL rI) x9.1),(53,vI (x9.1.length:Int)),(54,vI x15),(62,vM aG x8.body),(63,vI (x8.body.length:Int)),(64,vI x_.2)] [(20,ar 72 g_ 3 aY x_.1),(22,ar 39 1 1 (rL rI) x9.1)] [20,21,22]) g16 (lS) ?_)));rintro again23 ⟨x20,x21⟩ g22 h;refine aE hC [65] [(65,vK x21 x8.body)] (N5 h (fun c9 h=>?_) fun c9 h=>dT (bE hC [54,83] [(54,vI (wr (x15+1)))] ⟨(x20,wr (x15+1)),g22,h,lS⟩));refine qk (dX ?_);obtain⟨x24,hx24,h⟩:=bd h;refine rq hC [oR aG hx24,.z (.nat 23)] [11,12,66,67,68] [(11,vI x21),(12,V.ref 23 0)] [(23,some (E.cells (jH x24)))] [(23,true)] (qs ?_);obtain⟨x25,hx25,h⟩:=bd h;refine aU hC [oV (rX G hx25)] (fr 69 5) [(73,vB (!x25))] (aX h (fun c10 h=>?_) fun c10 h=>?_)
  ·cases h;exact aE hC [2,3] [(2,fH),(3,vB false)] (qw (lk hC [.grow 2 0 72] [2] [(2,ms 0 1 3 aY [])] [(0,some (ar 72 1 3 aY []))] [(0,true)]) zw)
  refine qk ?_;obtain⟨x26,hx26,x27,hx27,h⟩:=gH h;exact rk hC [oC [] [24] (G.clone x18 hx26),.z (.at 4),.z (.fz 24 [78] []),.z (.int 0),oA (dJ aY hx27),oM 3 qH x20,oM 3 qH [(⟨x5,x21,x26⟩:Inst)]] [4,74,75,76,77,78,79,80,81] [(4,ms 20 (g22+1) 3 aY x27)] [(24,none),(20,some (ar 72 (g22+1) 3 aY x27))] [(24,true)] (bE hC [64,82] [(64,vI (wr (x21+1)))] ⟨(x27,wr (x21+1)),(g22+1),h,lS⟩)
 cases h;exact dT (aU hC [oN aY x4] [2,3,85,86,87,88] [(2,ms 20 g6 3 aY x4),(3,vD ((x4.length:Int)≤120))] (xR hC 2 20 (ms 0 1 3 aY x4) (ar 72 1 3 aY x4)))
theorem iJ{p}{r}(h:gW n p=some r):PQ G 35 [V.agg (eL p)] (vB r):=by refine pq aR Tryz.func35 rfl fun w X hC=>aU hC [.z (.b (true))] [1,2] [(1,V.tp (bO p))] ?_;obtain⟨x1,hx1,h⟩:=bd h;cases h;exact rq hC [oC [] [20] (eH G hx1)] (fr 3 7) [(4,vB x1.2)] [(20,some (ar 72 1 3 aY x1.1))] [(20,true)] (aE hC [2,10] [(2,vB x1.2)] zr)
theorem dO{a}{b}{r}(h:fS n a b=some r):PQ G 20 [vM rI a,vM rI b] (vB r):=by
 refine pq aR Tryz.func20 rfl fun w X hC=>bC hC [4] (qs (aU hC [oN rI a,oN rI b] (fr 6 5) [(10,vB (!decide ((a.length:Int)=(b.length:Int))))] (aX h (fun c1 h=>?_) fun c1 h=>?_)))
 ·cases h;exact aE hC [4] [(4,vB false)] zr
 refine qk (qs (aE hC [5] [(5,vI 0)] (qb (gY h (fun x_=>dA [(0,vM rI a),(1,vM rI b),(5,vI x_)]) lS ?_))));rintro again2 x1 h;refine qs (aU hC [oN rI a] (fr 11 4) [(14,vK x1 a)] (aX h (fun c2 h=>?_) fun c2 h=>?_))
 ·refine qk (dX (qs ?_));obtain⟨x3,hx3,x4,hx4,h⟩:=gH h;refine pI hC dB [oR rI hx3,oR rI hx4] (fr 17 9) [(25,vB (!decide (x3=x4)))] (aX h (fun c3 h=>?_) fun c3 h=>qk (bE hC [5,15,16] [(5,vI (wr (x1+1)))] (lE h)));cases h;exact aE hC [4] [(4,vB false)] zr
 cases h;exact dT (aE hC [4] [(4,vB true)] zr)
theorem Y7{a}{b}{r}(h:pW n a b=some r):PQ G 81 [V.agg [vS a.name,vM rI a.dims],V.agg [vS b.name,vM rI b.dims]] (vB r):=by
 refine pq aR Tryz.func81 rfl fun w X hC=>aU hC [.z (.b (true)),.z (.b (true))] [2,3,4] [(2,V.tp [T.str a.name,T.sl (List.map rI a.dims)]),(3,V.tp [T.str b.name,T.sl (List.map rI b.dims)])] (qs (aE hC (fr 5 5) [(9,vB (!decide (a.name=b.name)))] (aX h (fun c1 h=>?_) fun c1 h=>?_)))
 ·cases h;exact aE hC [4] [(4,vB false)] zr
 refine qk (qs ?_);obtain⟨x1,hx1,h⟩:=bd h;refine aU hC [oV (dO G hx1)] (fr 10 6) [(15,vB (!x1))] (aX h (fun c2 h=>?_) fun c2 h=>?_)
 ·cases h;exact aE hC [4] [(4,vB false)] zr
 cases h;exact qk (aE hC [4] [(4,vB true)] zr)
theorem R4{a}{b}{r}(h:rD n a b=some r):PQ G 37 [vM aN a,vM aN b] (vB r):=by
 refine pq aR Tryz.func37 rfl fun w X hC=>bC hC [4] (qs (aU hC [oN aN a,oN aN b] (fr 6 5) [(10,vB (!decide ((a.length:Int)=(b.length:Int))))] (aX h (fun c1 h=>?_) fun c1 h=>?_)))
 ·cases h;exact aE hC [4] [(4,vB false)] zr
 refine qk (qs (aE hC [5] [(5,vI 0)] (qb (gY h (fun x_=>dA [(0,vM aN a),(1,vM aN b),(5,vI x_)]) lS ?_))));rintro again2 x1 h;refine qs (aU hC [oN aN a] (fr 11 4) [(14,vK x1 a)] (aX h (fun c2 h=>?_) fun c2 h=>?_))
 ·refine qk (dX (qs ?_));obtain⟨x3,hx3,x4,hx4,x5,hx5,h⟩:=wF h;refine pI hC dB [oR aN hx3,oR aN hx4,oV (Y7 G hx5)] (fr 17 10) [(26,vB (!x5))] (aX h (fun c3 h=>?_) fun c3 h=>qk (bE hC [5,15,16] [(5,vI (wr (x1+1)))] (lE h)));cases h;exact aE hC [4] [(4,vB false)] zr
 cases h;exact dT (aE hC [4] [(4,vB true)] zr)
theorem tW{a}{b}{r}(h:kT n a b=some r):PQ G 222 [V.agg (cH a),V.agg (cH b)] (vB r):=by
 refine pq aR Tryz.func222 rfl fun w X hC=>aU hC [.z (.b (true)),.z (.b (true))] [2,3,4] [(2,V.tp (bZ a)),(3,V.tp (bZ b))] (qs ?_);obtain⟨x1,hx1,h⟩:=bd h;refine aU hC [oV (dO G hx1)] (fr 5 6) [(10,vB (!x1))] (aX h (fun c1 h=>?_) fun c1 h=>?_)
 ·cases h;exact aE hC [4] [(4,vB false)] zr
 refine qk (qs (aE hC (fr 11 5) [(15,vB (!decide (a.const=b.const)))] (aX h (fun c2 h=>?_) fun c2 h=>?_)))
 ·cases h;exact aE hC [4] [(4,vB false)] zr
 cases h;exact qk (aE hC [4] [(4,vB true)] zr)
theorem mQ{a}{b}{r}(h:iV n a b=some r):PQ G 203 [vM aA a,vM aA b] (vB r):=by
 refine pq aR Tryz.func203 rfl fun w X hC=>bC hC [4] (qs (aU hC [oN aA a,oN aA b] (fr 6 5) [(10,vB (!decide ((a.length:Int)=(b.length:Int))))] (aX h (fun c1 h=>?_) fun c1 h=>?_)))
 ·cases h;exact aE hC [4] [(4,vB false)] zr
 refine qk (qs (aE hC [5] [(5,vI 0)] (qb (gY h (fun x_=>dA [(0,vM aA a),(1,vM aA b),(5,vI x_)]) lS ?_))));rintro again2 x1 h;refine qs (aU hC [oN aA a] (fr 11 4) [(14,vK x1 a)] (aX h (fun c2 h=>?_) fun c2 h=>?_))
 ·refine qk (dX (qs ?_));obtain⟨x3,hx3,x4,hx4,x5,hx5,h⟩:=wF h;refine pI hC dB [oR aA hx3,oR aA hx4,oV (tW G hx5)] (fr 17 10) [(26,vB (!x5))] (aX h (fun c3 h=>?_) fun c3 h=>qk (bE hC [5,15,16] [(5,vI (wr (x1+1)))] (lE h)));cases h;exact aE hC [4] [(4,vB false)] zr
 cases h;exact dT (aE hC [4] [(4,vB true)] zr)
theorem aBr{a}{b}{r}(h:sJ n a b=some r):PQ G 170 [V.agg (wZ a),V.agg (wZ b)] (vB r):=by
 refine pq aR Tryz.func170 rfl fun w X hC=>aU hC [.z (.b (true)),.z (.b (true))] [2,3,4] [(2,V.tp (oB a)),(3,V.tp (oB b))] (qs ?_);obtain⟨x1,hx1,h⟩:=bd h;refine aU hC [oV (mQ G hx1)] (fr 5 6) [(10,vB (!x1))] (aX h (fun c1 h=>?_) fun c1 h=>?_)
 ·cases h;exact aE hC [4] [(4,vB false)] zr
 refine qk (qs ?_);obtain⟨x2,hx2,h⟩:=bd h;refine aU hC [oV (mQ G hx2)] (fr 11 6) [(16,vB (!x2))] (aX h (fun c2 h=>?_) fun c2 h=>?_)
 ·cases h;exact aE hC [4] [(4,vB false)] zr
 cases h;exact qk (aE hC [4] [(4,vB true)] zr)
theorem Y5{a}{b}{r}(h:uV n a b=some r):PQ G 126 [vM aH a,vM aH b] (vB r):=by
 refine pq aR Tryz.func126 rfl fun w X hC=>bC hC [4] (qs (aU hC [oN aH a,oN aH b] (fr 6 5) [(10,vB (!decide ((a.length:Int)=(b.length:Int))))] (aX h (fun c1 h=>?_) fun c1 h=>?_)))
 ·cases h;exact aE hC [4] [(4,vB false)] zr
 refine qk (qs (aE hC [5] [(5,vI 0)] (qb (gY h (fun x_=>dA [(0,vM aH a),(1,vM aH b),(5,vI x_)]) lS ?_))));rintro again2 x1 h;refine qs (aU hC [oN aH a] (fr 11 4) [(14,vK x1 a)] (aX h (fun c2 h=>?_) fun c2 h=>?_))
 ·refine qk (dX (qs ?_));obtain⟨x3,hx3,x4,hx4,x5,hx5,h⟩:=wF h;refine pI hC dB [oR aH hx3,oR aH hx4,oV (aBr G hx5)] (fr 17 10) [(26,vB (!x5))] (aX h (fun c3 h=>?_) fun c3 h=>qk (bE hC [5,15,16] [(5,vI (wr (x1+1)))] (lE h)));cases h;exact aE hC [4] [(4,vB false)] zr
 cases h;exact dT (aE hC [4] [(4,vB true)] zr)
theorem tX{a}{b}{r}(h:kU n a b=some r):PQ G 204 [V.agg (eM a),V.agg (eM b)] (vB r):=by
 refine pq aR Tryz.func204 rfl fun w X hC=>aU hC [.z (.b (true)),.z (.b (true))] [2,3,4] [(2,V.tp (cP a)),(3,V.tp (cP b))] (qs (aE hC (fr 5 5) [(9,vB (!decide (a.array=b.array)))] (aX h (fun c1 h=>?_) fun c1 h=>?_)))
 ·cases h;exact aE hC [4] [(4,vB false)] zr
 refine qk (qs ?_);obtain⟨x1,hx1,h⟩:=bd h;refine aU hC [oV (mQ G hx1)] (fr 10 6) [(15,vB (!x1))] (aX h (fun c2 h=>?_) fun c2 h=>?_)
 ·cases h;exact aE hC [4] [(4,vB false)] zr
 cases h;exact qk (aE hC [4] [(4,vB true)] zr)
theorem Y6(G:GS)(n:Nat)(self:Expr→Expr→Option Bool)(hself: ∀(q0:Expr) (q1:Expr) {r:Bool},self q0 q1=some r→PQ G 205 [V.agg (jA q0),V.agg (jA q1)] (vB r))(a:List Expr)(b:List Expr){r:Bool}(h:uW n self a b=some r):PQ G 223 [vM aC a,vM aC b] (vB r):=by
 refine pq aR Tryz.func223 rfl fun w X hC=>bC hC [4] (qs (aU hC [oN aC a,oN aC b] (fr 6 5) [(10,vB (!decide ((a.length:Int)=(b.length:Int))))] (aX h (fun c1 h=>?_) fun c1 h=>?_)))
 ·cases h;exact aE hC [4] [(4,vB false)] zr
 refine qk (qs (aE hC [5] [(5,vI 0)] (qb (gY h (fun x_=>dA [(0,vM aC a),(1,vM aC b),(5,vI x_)]) lS ?_))));rintro again2 x1 h;refine qs (aU hC [oN aC a] (fr 11 4) [(14,vK x1 a)] (aX h (fun c2 h=>?_) fun c2 h=>?_))
 ·refine qk (dX (qs ?_));obtain⟨x3,hx3,x4,hx4,x5,hx5,h⟩:=wF h;refine pI hC dB [.z (.row (bI x3)),.z (.row (bI x4)),oQ (dY aC hx3 (aL x3)),oQ (dY aC hx4 (aL x4)),oV (hself x3 x4 hx5)] (fr 17 10) [(26,vB (!x5))] (aX h (fun c3 h=>?_) fun c3 h=>qk (bE hC [5,15,16] [(5,vI (wr (x1+1)))] (lE h)));cases h;exact aE hC [4] [(4,vB false)] zr
 cases h;exact dT (aE hC [4] [(4,vB true)] zr)
theorem aBs(G:GS): ∀(n:Nat) (a:Expr) (b:Expr) {r:Bool} (h:w_eqExpr n a b=some r),PQ G 205 [V.agg (jA a),V.agg (jA b)] (vB r):=by
 intro n;induction n with
 |zero=>intro a b r h;rw [w_eqExpr.eq_def] at h;cases h
 |succ n ih=>
  intro a b r h;rw [w_eqExpr.eq_def] at h;dsimp only at h;refine pq aR Tryz.func205 rfl fun w X hC=>aU hC [.z (.b (true)),.z (.b (true))] [2,3,4] [(2,V.tp (fO a)),(3,V.tp (fO b))] (qs (aE hC (fr 5 5) [(9,vB (!decide (a.kind=b.kind)))] (aX h (fun c1 h=>?_) fun c1 h=>?_)))
  ·cases h;exact aE hC [4] [(4,vB false)] zr
  refine qk (qs (aE hC (fr 10 5) [(14,vB (!decide (a.num=b.num)))] (aX h (fun c2 h=>?_) fun c2 h=>?_)))
  ·cases h;exact aE hC [4] [(4,vB false)] zr
  refine qk (qs ?_);obtain⟨x1,hx1,h⟩:=bd h;refine aU hC [oV (tW G hx1)] (fr 15 6) [(20,vB (!x1))] (aX h (fun c3 h=>?_) fun c3 h=>?_)
  ·cases h;exact aE hC [4] [(4,vB false)] zr
  refine qk (qs ?_);obtain⟨x2,hx2,h⟩:=bd h;refine aU hC [oV (tX G hx2)] (fr 21 6) [(26,vB (!x2))] (aX h (fun c4 h=>?_) fun c4 h=>?_)
  ·cases h;exact aE hC [4] [(4,vB false)] zr
  refine qk (qs ?_);obtain⟨x3,hx3,h⟩:=bd h;refine aU hC [oV (Y6 G n (w_eqExpr n) (fun q0 q1 r h=>ih q0 q1 h) a.kids b.kids hx3)] (fr 27 6) [(32,vB (!x3))] (aX h (fun c5 h=>?_) fun c5 h=>?_)
  ·cases h;exact aE hC [4] [(4,vB false)] zr
  cases h;exact qk (aE hC [4] [(4,vB true)] zr)
end Go.Lift
