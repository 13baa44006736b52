/- The walks: the code computes what the plain functions say. -/
import Derived.Test.YtcihigfifglboabGreatEModels
import Derived.Test.YtcihigfifglboabGreatETab
import Derived.Test.YtcihigfifglboabGreatECells
set_option maxRecDepth 10000
set_option linter.unusedVariables false
namespace Go.Lift
open Go Go.Proofs
variable (G:GS) {n:Nat}
theorem bM{r_a0}{n_a1}{r}(h:bD n r_a0 n_a1=some r):VQ G 132 [uU r_a0] [V.ref 0 0,vI n_a1] (vI r.1) [uU r.2]:=by
 refine vq aL Tryz.func132 rfl fun w X β0 hC hg=>aH hC (aH hC (qs (vj h (fun x_=>bU [(0,V.ref 0 0),(1,vI n_a1),(24,vB x_)] [(0,E.cells [vM rY r_a0.b,vI (wr (r_a0.p+1))])] [0]) (fun j1 h=>aQ h (fun c1 h=>eK hC (rF 5 c1++[oN rY r_a0.b,oF c1,oF c1]) (lE h)) fun c1 h=>eK hC (rT 7 c1) (lE h)) fun x2 h=>?_)));refine aS h (fun c2 h=>?_) fun c2 h=>?_
 ·cases h;exact aH hC zw
 refine qk (aH hC (qs (eQ hC [oN rY r_a0.b] (aS h (fun c3 h=>?_) fun c3 h=>?_))))
 ·obtain⟨x3,hx3,x4,hx4,h⟩:=cM h;cases h;exact eQ hC [oR rY hx3,.z (.int (x3.toNat:Int)),oQ (u8i x3),oQ (aAp hx4)] zw
 refine qk (qs ?_);obtain⟨x5,hx5,x6,hx6,x7,hx7,h⟩:=iL h;obtain⟨x8,hx8,x9,hx9,h⟩:=cM h;refine eD hC aV [oN rY r_a0.b,oQ (aAp hx5),oR rY hx6,.z (.int (x6.toNat:Int)),oQ (u8i x6),oN rY r_a0.b,oQ (aAp hx7),oR rY hx8,.z (.int (x8.toNat:Int)),oQ (u8i x8),oN rY r_a0.b,oQ (aAp hx9)] (eQ hC [oQ (show(64:Int)≠0 by decide)] ?_);obtain⟨x10,hx10,h⟩:=bd h;cases h;exact eQ hC [oQ (aAp hx10)] zw
theorem aZ{r_a0}{list}{r}(h:bA n r_a0 list=some r):VQ G 90 [uU r_a0] [V.ref 0 0,vM rI list] (vI r.1) [uU r.2]:=by refine vq aL Tryz.func90 rfl fun w X β0 hC hg=>aH hC ?_;obtain⟨x1,hx1,x2,hx2,h⟩:=cM h;cases h;exact eQ hC [oN rI list,oC [0] [] (bM G hx1),oR rI hx2] zw
theorem I8{list}{r}(h:tM n list=some r):PQ G 136 [vM aR list] (vB r):=by
 refine pq aL Tryz.func136 rfl fun w X hC=>aH hC (qs (aH hC (qb (gP h (fun x_=>dA [(0,vM aR list),(3,vI x_)]) lS ?_))));rintro again2 x1 h;refine qs (eQ hC [oN aR list] (aS h (fun c1 h=>?_) fun c1 h=>?_))
 ·refine qk (cU ?_);obtain⟨x3,hx3,h⟩:=bd h;refine eQ hC [oR aR hx3,.z (.nat 20)] (qs (vj h (fun x_=>bU [(0,vM aR list),(3,vI x1),(4,V.ref 20 0),(56,vB x_)] [(20,E.cells [vS x3.name,vM rI x3.dims])] [20]) (fun j4 h=>?_) fun x6 h=>?_))
  ·refine aQ h (fun c2 h=>?_) fun c2 h=>eD hC aV (rT 4 c2++sT 19) (lE h);refine aQ h (fun c3 h=>?_) fun c3 h=>eD hC aV (rF 4 c2++rT 4 c3++sT 15) (lE h);refine aQ h (fun c4 h=>?_) fun c4 h=>eD hC aV (rF 4 c2++rF 4 c3++rT 5 c4++sT 10) (lE h);refine aQ h (fun c5 h=>?_) fun c5 h=>?_
   ·exact aQ h (fun c6 h=>eD hC aV (rF 4 c2++rF 4 c3++rF 3 c4++rF 9 c5++[oF c4,oF c5,oF c4,eF,eF,eF,oN rI x3.dims,eF,eF]++rF 3 c6++[oN rI x3.dims,oF c6,oF c6]) (lE h)) fun c6 h=>eD hC aV (rF 4 c2++rF 4 c3++rF 3 c4++rF 9 c5++[oF c4,oF c5,oF c4,eF,eF,eF,oN rI x3.dims,eF,eF]++rT 5 c6) (lE h)
   obtain⟨x5,hx5,h⟩:=bd h;refine aQ h (fun c7 h=>?_) fun c7 h=>eD hC aV (rF 4 c2++rF 4 c3++rF 3 c4++rT 4 c5++[oR aR hx5]++rT 5 c5++[oF c4,oT c5,oF c4]++rT 5 c7++sT 5) (lE h);exact aQ h (fun c8 h=>eD hC aV (rF 4 c2++rF 4 c3++rF 3 c4++rT 4 c5++[oR aR hx5]++rT 5 c5++[oF c4,oT c5,oF c4]++rF 3 c7++[oN rI x3.dims,oF c7,oF c7]++rF 3 c8++[oN rI x3.dims,oF c8,oF c8]) (lE h)) fun c8 h=>eD hC aV (rF 4 c2++rF 4 c3++rF 3 c4++rT 4 c5++[oR aR hx5]++rT 5 c5++[oF c4,oT c5,oF c4]++rF 3 c7++[oN rI x3.dims,oF c7,oF c7]++rT 5 c8) (lE h)
  refine aS h (fun c9 h=>?_) fun c9 h=>?_
  ·cases h;exact aH hC zr
  refine qk (aH hC (qb (gP h (fun x_=>bU [(0,vM aR list),(3,vI x1),(4,V.ref 20 0),(5,vI x_)] [(20,E.cells [vS x3.name,vM rI x3.dims])] [20]) lS ?_)));rintro again8 x7 h;refine qs (eQ hC [oN rI x3.dims] (aS h (fun c10 h=>?_) fun c10 h=>cE (bX hC (lE h))));refine qk (cU (vj h (fun x_=>bU [(0,vM aR list),(3,vI x1),(4,V.ref 20 0),(5,vI x7),(77,vB x_)] [(20,E.cells [vS x3.name,vM rI x3.dims])] [20]) (fun j9 h=>?_) fun x11 h=>?_))
  ·obtain⟨x10,hx10,h⟩:=bd h;exact aQ h (fun c11 h=>eK hC ([oR rI hx10]++rF 4 c11++[oR rI hx10]++rF 3 c11) (lE h)) fun c11 h=>eK hC ([oR rI hx10]++rT 7 c11) (lE h)
  refine aS h (fun c12 h=>?_) fun c12 h=>qk (bX hC (lE h));cases h;exact aH hC zr
 cases h;exact cE (eQ hC [oN aR list] zr)
theorem pQ{a}{point}{r}(h:jY n a point=some r):PQ G 287 [V.agg (aO a),vM rI point] (vI r):=by
 refine pq aL Tryz.func287 rfl fun w X hC=>eQ hC [.z (.b (true))] (aH hC (qs (aH hC (qb (gP h (fun x_=>dA [(1,vM rI point),(2,V.tp (cN a)),(5,vI x_.1),(6,vI x_.2)]) lS ?_)))));rintro again3 ⟨x1,x2⟩ h;refine qs (vj h (fun x_=>dA [(1,vM rI point),(2,V.tp (cN a)),(5,vI x1),(6,vI x2),(19,vB x_)]) (fun j4 h=>aQ h (fun c1 h=>eK hC ([oN rI point]++rF 6 c1) (lE h)) fun c1 h=>eK hC ([oN rI point]++rT 4 c1++[oN rI a.coefs,oT c1,oT c1]) (lE h)) fun x5 h=>?_);refine aS h (fun c2 h=>?_) fun c2 h=>?_
 ·refine qk (cU ?_);obtain⟨x6,hx6,x7,hx7,h⟩:=cM h;exact eD hC aV [oR rI hx6,oR rI hx7] (bX hC (lE h))
 obtain rfl:=so h;exact cE (aH hC zr)
theorem S1{loop}{p}{r}(h:sE n loop p=some r):PQ G 244 [V.agg (nM loop),vM rI p] (V.tup [vI r.1,vI r.2]):=by
 refine pq aL Tryz.func244 rfl fun w X hC=>eQ hC [.z (.b (true))] ?_;obtain⟨x1,hx1,x2,hx2,h⟩:=cM h;refine eQ hC [oR aB hx1,oV (pQ G hx2)] ?_;obtain⟨x3,hx3,x4,hx4,h⟩:=cM h;refine eQ hC [oR aB hx3,oV (pQ G hx4)] (qs (aH hC (qb (gP h (fun x_=>dA [(1,vM rI p),(2,V.tp (P9 loop)),(6,vI x_.1),(7,vI x4),(8,vI x_.2)]) lS ?_))));rintro again7 ⟨x5,x6⟩ h;refine qs (eQ hC [oN aB loop.lo] (aS h (fun c1 h=>?_) fun c1 h=>?_))
 ·refine qk (vj h (fun x_=>dA [(1,vM rI p),(2,V.tp (P9 loop)),(6,vI x_),(7,vI x4),(8,vI x6)]) (fun j8 h=>?_) fun x11 h=>bX hC (lE h));refine qb ?_;obtain⟨x9,hx9,x10,hx10,h⟩:=cM h;exact eQ hC [oR aB hx9,oV (pQ G hx10)] (aH hC (aS h (fun c2 h=>bX hC (lE h)) fun c2 h=>qk (lE h)))
 refine cE (qs (aH hC (qb (gP h (fun x_=>dA [(1,vM rI p),(2,V.tp (P9 loop)),(6,vI x5),(7,vI x_.1),(10,vI x_.2)]) lS ?_))));rintro again14 ⟨x12,x13⟩ h;refine qs (eQ hC [oN aB loop.hi] (aS h (fun c3 h=>?_) fun c3 h=>?_))
 ·refine qk (vj h (fun x_=>dA [(1,vM rI p),(2,V.tp (P9 loop)),(6,vI x5),(7,vI x_),(10,vI x13)]) (fun j15 h=>?_) fun x18 h=>bX hC (lE h));refine qb ?_;obtain⟨x16,hx16,x17,hx17,h⟩:=cM h;exact eQ hC [oR aB hx16,oV (pQ G hx17)] (aH hC (aS h (fun c4 h=>bX hC (lE h)) fun c4 h=>qk (lE h)))
 cases h;exact cE (aH hC zr)
theorem aHN(G:GS): ∀(n:Nat) (nest:List Loop) (p:List Int) (most:Int) {r:Int} (h:s_l2Work n nest p most=some r),PQ G 264 [vM aC nest,vM rI p,vI most] (vI r):=by
 intro n;induction n with
 |zero=>intro nest p most r h;rw [s_l2Work.eq_def] at h;cases h
 |succ n ih=>
  intro nest p most r h;rw [s_l2Work.eq_def] at h;dsimp only at h;refine pq aL Tryz.func264 rfl fun w X hC=>aH hC (aH hC (qs (eQ hC [oN rI p,oN aC nest] (aS h (fun c1 h=>?_) fun c1 h=>?_))))
  ·obtain rfl:=so h;exact aH hC zr
  refine qk ?_;obtain⟨x1,hx1,x2,hx2,h⟩:=cM h;refine eQ hC [oN rI p,oR aC hx1,oV (S1 G hx2)] (qs (aH hC (qb (gP h (fun x_=>dA [(0,vM aC nest),(1,vM rI p),(2,vI most),(7,vI x_.1),(9,vI x2.2),(10,vI x_.2)]) lS ?_))));rintro again5 ⟨x3,x4⟩ h;refine qs (vj h (fun x_=>dA [(0,vM aC nest),(1,vM rI p),(2,vI most),(7,vI x3),(9,vI x2.2),(10,vI x4),(35,vB x_)]) (fun j6 h=>aQ h (fun c2 h=>eK hC (rF 4 c2) (lE h)) fun c2 h=>eK hC (rT 4 c2) (lE h)) fun x7 h=>?_);refine aS h (fun c3 h=>?_) fun c3 h=>?_
  ·refine qk (cU ?_);obtain⟨x8,hx8,x9,hx9,x10,hx10,h⟩:=iL h;exact eK hC [.z (.nat 20),oA (aM rI hx8),.z (.int 0),oI [],oI p,oA (aM rI hx9),.z (.b (true)),oI x8,oI [x4],oV (ih nest x9 (wr (most-x3)) hx10)] (bX hC (lE h))
  obtain rfl:=so h;exact cE (aH hC zr)
theorem I9(G:GS): ∀(n:Nat) (out:List (List Int)) (outG:Nat) (nest:List Loop) (p:List Int) {r:(List (List Int))} (h:s_l2Points n out nest p=some r),VQ G 188 [ar 35 outG 1 (rL rI) out] [ms 0 outG 1 (rL rI) out,vM aC nest,vM rI p] (ms 0 (outG+1) 1 (rL rI) r) [ar 35 (outG+1) 1 (rL rI) r]:=by
 intro n;induction n with
 |zero=>intro out outG nest p r h;rw [s_l2Points.eq_def] at h;cases h
 |succ n ih=>
  intro out outG nest p r h;rw [s_l2Points.eq_def] at h;dsimp only at h;refine vq aL Tryz.func188 rfl fun w X β0 hC hg=>aH hC (qs (eQ hC [oN rI p,oN aC nest] (aS h (fun c1 h=>?_) fun c1 h=>?_)))
  ·obtain⟨x1,hx1,x2,hx2,h⟩:=cM h;obtain rfl:=so h;exact eQ hC [.z (.nat 20),oA (aM rI hx1),.z (.at 3),.z (.fz 20 [18] []),.z (.int 0),oI [],oI p,oA (aM (rL rI) hx2),oQ (rwM (r:=(rL rI)) 1 (fun _=>rfl) out),oQ (rwM (r:=(rL rI)) 1 (fun _=>rfl) [x1])] (qw (wS 6 0 outG (outG+1) 1 0 (List.map (rL rI) x2).length (e:= .arr 35 (outG+1) 1 (List.map (rL rI) x2)) rfl (by kernel_rfl) (by kernel_rfl) rfl rfl hg.1) zw)
  refine qk ?_;obtain⟨x3,hx3,x4,hx4,h⟩:=cM h;refine eQ hC [oN rI p,oR aC hx3,oV (S1 G hx4)] (qs (aH hC (qb (iO h (fun x_ g_=>bU [(0,ms 0 g_ 1 (rL rI) x_.1),(1,vM aC nest),(2,vM rI p),(8,vI x4.2),(9,vI x_.2)] [(0,ar 35 g_ 1 (rL rI) x_.1)] [0]) outG (lS) ?_))));rintro again8 ⟨x5,x6⟩ g7 h;refine qs (vj h (fun x_=>bU [(0,ms 0 g7 1 (rL rI) x5),(1,vM aC nest),(2,vM rI p),(8,vI x4.2),(9,vI x6),(39,vB x_)] [(0,ar 35 g7 1 (rL rI) x5)] [0]) (fun j9 h=>aQ h (fun c2 h=>eK hC (rF 4 c2) (lE h)) fun c2 h=>eK hC [oT c2,oT c2,oN (rL rI) x5,oT c2,oT c2] (lE h)) fun x10 h=>?_);refine aS h (fun c3 h=>?_) fun c3 h=>?_
  ·refine qk (cU ?_);obtain⟨x11,hx11,x12,hx12,x13,hx13,h⟩:=iL h;exact eK hC [.z (.nat 20),oA (aM rI hx11),.z (.int 0),oI [],oI p,oA (aM rI hx12),.z (.at 2),.z (.fz 20 [49] []),oI x11,oI [x6],oC [0] [] (ih x5 g7 nest x12 hx13)] (bX hC ⟨(x13,wr (x6+1)),(g7+1),h,lS⟩)
  obtain rfl:=so h;exact cE (aH hC (qw (wS 6 0 outG g7 1 0 (List.map (rL rI) x5).length (e:= .arr 35 g7 1 (List.map (rL rI) x5)) rfl (by kernel_rfl) (by kernel_rfl) rfl rfl hg.1) zw))
theorem wD{a}{r}(h:oU n a=some r):PQ G 275 [V.agg (aO a)] (vI r):=by
 refine pq aL Tryz.func275 rfl fun w X hC=>eQ hC [.z (.b (true))] (aH hC (qs (aH hC (qb (gP h (fun x_=>dA [(1,V.tp (cN a)),(3,vI x_.1),(4,vI x_.2)]) lS ?_)))));rintro again3 ⟨x1,x2⟩ h;refine qs (eQ hC [oN rI a.coefs] (aS h (fun c1 h=>?_) fun c1 h=>?_))
 ·refine qk (vj h (fun x_=>dA [(1,V.tp (cN a)),(3,vI x_),(4,vI x2)]) (fun j4 h=>?_) fun x6 h=>bX hC (lE h));refine qb ?_;obtain⟨x5,hx5,h⟩:=bd h;exact eQ hC [oR rI hx5] (aS h (fun c2 h=>bX hC (lE h)) fun c2 h=>qk (lE h))
 obtain rfl:=so h;exact cE (aH hC zr)
theorem uG{n_a0}{most}{r}(h:lW n n_a0 most=some r):PQ G 167 [vI n_a0,vI most] (vB r):=by refine pq aL Tryz.func167 rfl fun w X hC=>aH hC (vj h (fun x_=>dA [(4,vB x_)]) (fun j1 h=>aQ h (fun c1 h=>eK hC (rF 4 c1) (lE h)) fun c1 h=>eK hC (rT 4 c1) (lE h)) fun x2 h=>?_);obtain rfl:=so h;exact zr
theorem d8{a}{r}(h:fU n a=some r):PQ G 302 [V.agg (aO a)] (vB r):=by
 refine pq aL Tryz.func302 rfl fun w X hC=>eQ hC [.z (.b (true))] (qs (aH hC (qb (gP h (fun x_=>dA [(1,V.tp (cN a)),(3,vI x_)]) lS ?_))));rintro again2 x1 h;refine qs (eQ hC [oN rI a.coefs] (aS h (fun c1 h=>?_) fun c1 h=>?_))
 ·refine qk (cU ?_);obtain⟨x3,hx3,x4,hx4,h⟩:=cM h;refine eQ hC [oR rI hx3,oV (uG G hx4)] (aS h (fun c2 h=>?_) fun c2 h=>qk (bX hC (lE h)));obtain rfl:=so h;exact aH hC zr
 refine cE (vj h (fun x_=>dA [(2,vB x_)]) (fun j5 h=>?_) fun x7 h=>?_)
 ·refine aQ h (fun c3 h=>eK hC ([oN rI a.coefs]++rF 4 c3) (lE h)) fun c3 h=>?_;obtain⟨x6,hx6,h⟩:=bd h;exact eK hC ([oN rI a.coefs]++rT 3 c3++[oV (uG G hx6),oT c3]) (lE h)
 obtain rfl:=so h;exact zr
theorem zP{list}{depth}{r}(h:vD n list depth=some r):PQ G 301 [vM aB list,vI depth] (vB r):=by
 refine pq aL Tryz.func301 rfl fun w X hC=>aH hC (qs (aH hC (qb (gP h (fun x_=>dA [(0,vM aB list),(1,vI depth),(5,vI x_)]) lS ?_))));rintro again2 x1 h;refine qs (eQ hC [oN aB list] (aS h (fun c1 h=>?_) fun c1 h=>?_))
 ·refine qk (cU (vj h (fun x_=>dA [(0,vM aB list),(1,vI depth),(5,vI x1),(26,vB x_)]) (fun j3 h=>?_) fun x7 h=>?_))
  ·obtain⟨x4,hx4,x5,hx5,h⟩:=cM h;refine aQ h (fun c2 h=>?_) fun c2 h=>eK hC ([oR aB hx4,oV (d8 G hx5)]++rT 8 c2) (lE h);obtain⟨x6,hx6,h⟩:=bd h;exact eK hC ([oR aB hx4,oV (d8 G hx5)]++rF 3 c2++[oR aB hx4,oF c2,oF c2,oV (wD G hx6)]++rF 3 c2) (lE h)
  refine aS h (fun c3 h=>?_) fun c3 h=>qk (bX hC (lE h));obtain rfl:=so h;exact aH hC zr
 refine cE (vj h (fun x_=>dA [(4,vB x_)]) (fun j8 h=>aQ h (fun c4 h=>eK hC ([oN aB list]++rF 4 c4) (lE h)) fun c4 h=>eK hC [oN aB list,oT c4,oT c4,oN aB list,oT c4,oT c4] (lE h)) fun x9 h=>?_);obtain rfl:=so h;exact zr
theorem yI{nest}{r}(h:qC n nest=some r):PQ G 263 [vM aC nest] (vB r):=by
 refine pq aL Tryz.func263 rfl fun w X hC=>aH hC (qs (aH hC (qb (gP h (fun x_=>dA [(0,vM aC nest),(3,vI x_)]) lS ?_))));rintro again2 x1 h;refine qs (vj h (fun x_=>dA [(0,vM aC nest),(3,vI x1),(12,vB x_)]) (fun j3 h=>aQ h (fun c1 h=>eK hC ([oN aC nest]++rF 4 c1) (lE h)) fun c1 h=>eK hC [oN aC nest,oT c1,oT c1,oN aC nest,oT c1,oT c1] (lE h)) fun x4 h=>?_);refine aS h (fun c2 h=>?_) fun c2 h=>?_
 ·refine qk (cU (vj h (fun x_=>dA [(0,vM aC nest),(3,vI x1),(32,vB x_)]) (fun j5 h=>?_) fun x9 h=>?_))
  ·obtain⟨x6,hx6,x7,hx7,h⟩:=cM h;refine aQ h (fun c3 h=>?_) fun c3 h=>eK hC ([oR aC hx6,oV (zP G hx7)]++rT 9 c3) (lE h);obtain⟨x8,hx8,h⟩:=bd h;exact eK hC ([oR aC hx6,oV (zP G hx7)]++rF 3 c3++[oR aC hx6]++rF 4 c3++[oV (zP G hx8),oF c3,oF c3]) (lE h)
  refine aS h (fun c4 h=>?_) fun c4 h=>qk (bX hC (lE h));cases h;exact aH hC zr
 cases h;exact cE (eQ hC [oN aC nest] zr)
theorem aBo{nest}{r}(h:nQ n nest=some r):VQ G 210 [] [vM aC nest] (V.tup [ms 0 1 1 (rL rI) r.1,vB r.2]) [ar 35 1 1 (rL rI) r.1]:=by
 refine vq aL Tryz.func210 rfl fun w X β0 hC hg=>aH hC (qs (vj h (fun x_=>dA [(0,vM aC nest),(12,vB x_)]) (fun j1 h=>?_) fun x4 h=>?_))
 ·obtain⟨x2,hx2,h⟩:=bd h;refine aQ h (fun c1 h=>?_) fun c1 h=>eK hC ([oV (yI G hx2)]++rT 4 c1) (lE h);obtain⟨x3,hx3,h⟩:=bd h;exact eK hC [oV (yI G hx2),oF c1,oF c1,oV (aHN G n nest [] 1200 hx3),oF c1,oF c1] (lE h)
 refine aS h (fun c2 h=>?_) fun c2 h=>?_
 ·cases h;exact eQ hC [.z (.nat 20)] (xE hC 2 20)
 refine qk ?_;obtain⟨x5,hx5,h⟩:=bd h;refine eQ hC [.z (.nat 20),oC [20] [] (I9 G n [] 1 nest [] hx5)] (qs (eQ hC [oN (rL rI) x5] (aS h (fun c3 h=>?_) fun c3 h=>?_)))
 ·cases h;exact eQ hC [.z (.nat 21)] (xE hC 2 21)
 cases h;exact qk (aH hC (xE hC 2 20))
theorem uE{a}{depth}{r}(h:pA n a depth=some r):PQ G 265 [V.agg (cY a),vI depth] (vB r):=by
 refine pq aL Tryz.func265 rfl fun w X hC=>eQ hC [.z (.b (true))] (qs (aH hC (qb (gP h (fun x_=>dA [(1,vI depth),(2,V.tp (tI a)),(5,vI x_)]) lS ?_))));rintro again2 x1 h;refine qs (eQ hC [oN aB a.subs] (aS h (fun c1 h=>?_) fun c1 h=>?_))
 ·refine qk (cU (vj h (fun x_=>dA [(1,vI depth),(2,V.tp (tI a)),(5,vI x1),(29,vB x_)]) (fun j3 h=>?_) fun x7 h=>?_))
  ·obtain⟨x4,hx4,x5,hx5,h⟩:=cM h;refine aQ h (fun c2 h=>?_) fun c2 h=>eK hC ([oR aB hx4,oV (d8 G hx5)]++rT 9 c2) (lE h);obtain⟨x6,hx6,h⟩:=bd h;exact eK hC ([oR aB hx4,oV (d8 G hx5)]++rF 4 c2++[oR aB hx4,oF c2,oF c2,oV (wD G hx6)]++rF 3 c2) (lE h)
  refine aS h (fun c3 h=>?_) fun c3 h=>qk (bX hC (lE h));obtain rfl:=so h;exact aH hC zr
 refine cE (vj h (fun x_=>dA [(4,vB x_)]) (fun j8 h=>?_) fun x9 h=>?_)
 ·refine aQ h (fun c4 h=>eK hC (rF 4 c4++sF 14) (lE h)) fun c4 h=>?_;refine aQ h (fun c5 h=>eK hC (rT 4 c4++rF 4 c5++sF 10) (lE h)) fun c5 h=>?_;refine aQ h (fun c6 h=>eK hC (rT 4 c4++rT 4 c5++rF 5 c6++sF 5) (lE h)) fun c6 h=>?_;exact aQ h (fun c7 h=>eK hC (rT 4 c4++rT 4 c5++rT 3 c6++[oN aB a.subs,oT c6,oT c6]++rF 5 c7) (lE h)) fun c7 h=>eK hC (rT 4 c4++rT 4 c5++rT 3 c6++[oN aB a.subs,oT c6,oT c6]++rT 3 c7++[oN aB a.subs,oT c7,oT c7]) (lE h)
 obtain rfl:=so h;exact zr
theorem m9{a}{r}(h:oP n a=some r):PQ G 334 [V.agg (cY a)] (vB r):=by refine pq aL Tryz.func334 rfl fun w X hC=>eQ hC [.z (.b (true))] (vj h (fun x_=>dA [(2,vB x_)]) (fun j1 h=>aQ h (fun c1 h=>eK hC (rF 5 c1) (lE h)) fun c1 h=>eK hC (rT 3 c1++[oN aB a.subs,oT c1,oT c1]) (lE h)) fun x2 h=>?_);obtain rfl:=so h;exact zr
theorem mE{a}{r}(h:sC n a=some r):PQ G 335 [V.agg (aO a)] (vB r):=by refine pq aL Tryz.func335 rfl fun w X hC=>eQ hC [.z (.b (true))] (vj h (fun x_=>dA [(2,vB x_)]) (fun j1 h=>aQ h (fun c1 h=>eK hC ([oN rI a.coefs]++rF 4 c1) (lE h)) fun c1 h=>eK hC ([oN rI a.coefs]++rT 4 c1) (lE h)) fun x2 h=>?_);obtain rfl:=so h;exact zr
theorem aJU{e}{depth}{r}(h:W3 n e depth=some r):PQ G 304 [V.agg (eG e),vI depth] (vB r):=by
 refine pq aL Tryz.func304 rfl fun w X hC=>eQ hC [.z (.b (true))] (qs (aH hC (aS h (fun c1 h=>?_) fun c1 h=>?_)))
 ·refine vj h (fun x_=>dA [(4,vB x_)]) (fun j1 h=>?_) fun x5 h=>?_
  ·refine aQ h (fun c2 h=>eK hC (rF 4 c2++sF 10) (lE h)) fun c2 h=>?_;obtain⟨x2,hx2,h⟩:=bd h;refine aQ h (fun c3 h=>eK hC (rT 3 c2++[oV (m9 G hx2),oT c2]++rF 4 c3++sF 6) (lE h)) fun c3 h=>?_;obtain⟨x3,hx3,h⟩:=bd h;refine aQ h (fun c4 h=>eK hC (rT 3 c2++[oV (m9 G hx2),oT c2]++rT 3 c3++[oV (d8 G hx3),oT c3]++rF 6 c4) (lE h)) fun c4 h=>?_;obtain⟨x4,hx4,h⟩:=bd h;exact eK hC (rT 3 c2++[oV (m9 G hx2),oT c2]++rT 3 c3++[oV (d8 G hx3),oT c3]++rT 3 c4++[oV (wD G hx4)]++rT 3 c4) (lE h)
  obtain rfl:=so h;exact zr
 refine qk (qs (aH hC (aS h (fun c5 h=>?_) fun c5 h=>?_)))
 ·refine vj h (fun x_=>dA [(4,vB x_)]) (fun j6 h=>?_) fun x9 h=>?_
  ·refine aQ h (fun c6 h=>eK hC (rF 4 c6++sF 5) (lE h)) fun c6 h=>?_;obtain⟨x7,hx7,h⟩:=bd h;refine aQ h (fun c7 h=>eK hC (rT 3 c6++[oV (mE G hx7),oT c6]++rF 5 c7) (lE h)) fun c7 h=>?_;obtain⟨x8,hx8,h⟩:=bd h;exact eK hC (rT 3 c6++[oV (mE G hx7),oT c6]++rT 4 c7++[oV (uE G hx8),oT c7]) (lE h)
  obtain rfl:=so h;exact zr
 refine qk (qs (aH hC (aS h (fun c8 h=>?_) fun c8 h=>?_)))
 ·refine vj h (fun x_=>dA [(4,vB x_)]) (fun j10 h=>?_) fun x13 h=>?_
  ·refine aQ h (fun c9 h=>eK hC (rF 4 c9++sF 8) (lE h)) fun c9 h=>?_;refine aQ h (fun c10 h=>eK hC (rT 4 c9++rF 4 c10++sF 4) (lE h)) fun c10 h=>?_;obtain⟨x11,hx11,h⟩:=bd h;refine aQ h (fun c11 h=>eK hC (rT 4 c9++rT 3 c10++[oV (mE G hx11),oT c10]++rF 4 c11) (lE h)) fun c11 h=>?_;obtain⟨x12,hx12,h⟩:=bd h;exact eK hC (rT 4 c9++rT 3 c10++[oV (mE G hx11),oT c10]++rT 3 c11++[oV (m9 G hx12),oT c11]) (lE h)
  obtain rfl:=so h;exact zr
 refine qk (vj h (fun x_=>dA [(4,vB x_)]) (fun j14 h=>?_) fun x17 h=>?_)
 ·refine aQ h (fun c12 h=>eK hC (rF 4 c12++sF 4) (lE h)) fun c12 h=>?_;obtain⟨x15,hx15,h⟩:=bd h;refine aQ h (fun c13 h=>eK hC (rT 3 c12++[oV (mE G hx15),oT c12]++rF 4 c13) (lE h)) fun c13 h=>?_;obtain⟨x16,hx16,h⟩:=bd h;exact eK hC (rT 3 c12++[oV (mE G hx15),oT c12]++rT 3 c13++[oV (m9 G hx16),oT c13]) (lE h)
 obtain rfl:=so h;exact zr
theorem aBd{kind}{r}(h:C9 n kind=some r):PQ G 303 [vI kind] (vI r):=by
 refine pq aL Tryz.func303 rfl fun w X hC=>aH hC (qs (aH hC (qb (vj h (fun x_=>dA [(3,vI kind),(4,vB x_)]) (fun j1 h=>aH hC (aS h (fun c1 h=>qk (lE h)) fun c1 h=>aH hC (aS h (fun c2 h=>qk (lE h)) fun c2 h=>bX hC (lE h)))) fun x2 h=>?_))));refine aS h (fun c3 h=>?_) fun c3 h=>?_
 ·cases h;exact aH hC zr
 refine vj h (fun x_=>dA [(8,vB x_)]) (fun j3 h=>aH hC (aS h (fun c4 h=>qk (lE h)) fun c4 h=>aH hC (aS h (fun c5 h=>qk (lE h)) fun c5 h=>bX hC (lE h)))) fun x4 h=>?_;refine aS h (fun c6 h=>?_) fun c6 h=>?_
 ·cases h;exact aH hC zr
 cases h;exact qk (aH hC zr)
theorem aFF(G:GS): ∀(n:Nat) (e:Expr) (depth:Int) (levels:Int) {r:Bool} (h:s_l3Shape n e depth levels=some r),PQ G 266 [V.agg (eG e),vI depth,vI levels] (vB r):=by
 intro n;induction n with
 |zero=>intro e depth levels r h;rw [s_l3Shape.eq_def] at h;cases h
 |succ n ih=>
  intro e depth levels r h;rw [s_l3Shape.eq_def] at h;dsimp only at h;refine pq aL Tryz.func266 rfl fun w X hC=>eQ hC [.z (.b (true))] (qs (vj h (fun x_=>dA [(1,vI depth),(2,vI levels),(3,V.tp (nH e)),(24,vB x_)]) (fun j1 h=>?_) fun x4 h=>?_))
  ·refine aQ h (fun c1 h=>?_) fun c1 h=>eD hC aV (rT 8 c1++sT 5) (lE h);obtain⟨x2,hx2,h⟩:=bd h;refine aQ h (fun c2 h=>?_) fun c2 h=>eD hC aV (rF 3 c1++[oV (aBd G hx2)]++rF 3 c1++[oN aT e.kids,oF c1,oF c1]++rT 5 c2) (lE h);obtain⟨x3,hx3,h⟩:=bd h;exact eD hC aV (rF 3 c1++[oV (aBd G hx2)]++rF 3 c1++[oN aT e.kids,oF c1,oF c1]++rF 3 c2++[oV (aJU G hx3),oF c2,oF c2]) (lE h)
  refine aS h (fun c3 h=>?_) fun c3 h=>?_
  ·cases h;exact aH hC zr
  refine qk (qs (aH hC (qb (gP h (fun x_=>dA [(1,vI depth),(2,vI levels),(3,V.tp (nH e)),(7,vI x_)]) lS ?_))));rintro again6 x5 h;refine qs (eQ hC [oN aT e.kids] (aS h (fun c4 h=>?_) fun c4 h=>?_))
  ·refine qk (cU ?_);obtain⟨x7,hx7,x8,hx8,h⟩:=cM h;refine eQ hC [.z (.row (eC x7)),oQ (fM aT hx7 (dJ x7)),oV (ih x7 depth (wr (levels-1)) hx8)] (aS h (fun c5 h=>?_) fun c5 h=>qk (bX hC (lE h)));cases h;exact aH hC zr
  cases h;exact cE (aH hC zr)
theorem aFJ(G:GS): ∀(n:Nat) (e:Expr) (levels:Int) {r:Int} (h:s_l3Count n e levels=some r),PQ G 267 [V.agg (eG e),vI levels] (vI r):=by
 intro n;induction n with
 |zero=>intro e levels r h;rw [s_l3Count.eq_def] at h;cases h
 |succ n ih=>
  intro e levels r h;rw [s_l3Count.eq_def] at h;dsimp only at h;refine pq aL Tryz.func267 rfl fun w X hC=>eQ hC [.z (.b (true))] (aH hC (qs (aH hC (qb (gP h (fun x_=>dA [(1,vI levels),(2,V.tp (nH e)),(5,vI x_.1),(6,vI x_.2)]) lS ?_)))));rintro again3 ⟨x1,x2⟩ h;refine qs (vj h (fun x_=>dA [(1,vI levels),(2,V.tp (nH e)),(5,vI x1),(6,vI x2),(15,vB x_)]) (fun j4 h=>aQ h (fun c1 h=>eK hC ([oN aT e.kids]++rF 3 c1) (lE h)) fun c1 h=>eK hC ([oN aT e.kids]++rT 3 c1) (lE h)) fun x5 h=>?_);refine aS h (fun c2 h=>?_) fun c2 h=>?_
  ·refine qk (cU ?_);obtain⟨x6,hx6,x7,hx7,h⟩:=cM h;exact eK hC [.z (.row (eC x6)),oQ (fM aT hx6 (dJ x6)),oV (ih x6 (wr (levels-1)) hx7)] (bX hC (lE h))
  obtain rfl:=so h;exact cE (aH hC zr)
theorem rH{s}{depth}{r}(h:kU n s depth=some r):PQ G 211 [V.agg (fT s),vI depth] (vB r):=by
 refine pq aL Tryz.func211 rfl fun w X hC=>eQ hC [.z (.b (true))] (qs (vj h (fun x_=>dA [(2,V.tp (aOE s)),(24,vB x_)]) (fun j1 h=>?_) fun x4 h=>?_))
 ·refine aQ h (fun c1 h=>?_) fun c1 h=>eK hC (rT 3 c1++sT 12) (lE h);refine aQ h (fun c2 h=>?_) fun c2 h=>eK hC (rF 3 c1++rT 6 c2++sT 6) (lE h);obtain⟨x2,hx2,h⟩:=bd h;refine aQ h (fun c3 h=>?_) fun c3 h=>eK hC (rF 3 c1++rF 4 c2++[oV (uE G hx2),oF c2,oF c2]++rT 6 c3) (lE h);obtain⟨x3,hx3,h⟩:=bd h;exact eK hC (rF 3 c1++rF 4 c2++[oV (uE G hx2),oF c2,oF c2]++rF 4 c3++[oV (aFF G n s.value depth 5 hx3),oF c3,oF c3]) (lE h)
 refine aS h (fun c4 h=>?_) fun c4 h=>?_
 ·cases h;exact aH hC zr
 refine qk ?_;obtain⟨x5,hx5,h⟩:=bd h;cases h;exact eQ hC [oV (aFJ G n s.value 5 hx5)] zr
theorem mF{a}{r}(h:eM n a=some r):VQ G 270 [] [V.agg (aO a)] (V.agg [ms 0 1 1 rI r.coefs,vI r.const]) [ar 3 1 1 rI r.coefs]:=by
 refine vq aL Tryz.func270 rfl fun w X β0 hC hg=>eQ hC [.z (.b (true)),.z (.nat 20)] (qs (eQ hC [oN rI a.coefs] (aS h (fun c1 h=>?_) fun c1 h=>?_)))
 ·cases h;exact aH hC (wL hC [.growc 20 0 21 3] (wL hC [.rn 21 0 [] [20]] zw))
 refine qk (qs ?_);obtain⟨x1,hx1,h⟩:=bd h;cases h;exact eD hC aV [.z (.nat 21),oA (aM rI hx1),oI [],oI a.coefs] (wL hC [.rn 21 0 [] [20]] zw)
theorem mG{a}{r}(h:f9 n a=some r):VQ G 214 [] [V.agg (cY a)] (V.agg [vS r.array,ms 0 1 2 aB r.subs]) [ar 70 1 2 aB r.subs]:=by
 refine vq aL Tryz.func214 rfl fun w X β0 hC hg=>eQ hC [.z (.b (true)),.z (.nat 20)] (eQ hC [.z (.nat 21)] (qs (aH hC (qb (wL hC [.growc 21 1 22 70] ?_)))));refine iO h (fun x_ g_=>bU [(1,V.tp (tI a)),(2,V.ref 20 0),(3,V.ref 21 0),(4,vI x_.2)] [(20,E.cells [vS [],cD]),(21,E.cells [vS a.array,ms 22 g_ 2 aB x_.1]),(22,ar 70 g_ 2 aB x_.1)] [20,21,22]) 1 (lS) ?_;rintro again4 ⟨x1,x2⟩ g3 h;refine qs (eQ hC [oN aB a.subs] (aS h (fun c1 h=>?_) fun c1 h=>?_))
 ·refine qk (cU ?_);obtain⟨x5,hx5,x6,hx6,x7,hx7,h⟩:=iL h;exact eD hC aV [oR aB hx5,oC [] [23] (mF G hx6),.z (.at 4),.z (.fz 23 [22] []),.z (.int 0),oA (aM aB hx7),oM 2 aU x1,oM 2 aU [x6]] (bX hC ⟨(x7,wr (x2+1)),(g3+1),h,lS⟩)
 cases h;exact cE (aH hC (wL hC [.rn 22 0 [] [20,21]] zw))
theorem aFH(G:GS): ∀(n:Nat) (out:List Access) (outG:Nat) (e:Expr) {r:(List Access)} (h:s_l3Reads n out e=some r),VQ G 268 [ar 90 outG 2 b6 out] [ms 0 outG 2 b6 out,V.agg (eG e)] (ms 0 (outG+1) 2 b6 r) [ar 90 (outG+1) 2 b6 r]:=by
 intro n;induction n with
 |zero=>intro out outG e r h;rw [s_l3Reads.eq_def] at h;cases h
 |succ n ih=>
  intro out outG e r h;rw [s_l3Reads.eq_def] at h;dsimp only at h;refine vq aL Tryz.func268 rfl fun w X β0 hC hg=>eQ hC [.z (.b (true))] ?_;obtain⟨j1,hj1,h⟩:=xU h;refine iN (γ:=Nat) (j:=j1) (r:=r) (fun x_ g_=>bU [(0,ms 0 g_ 2 b6 x_),(3,V.tp (nH e))] [(0,ar 90 g_ 2 b6 x_)] [0]) ?_ ?_
  ·refine aH hC (aS h (fun c1 h=>?_) fun c1 h=>qk ⟨out,outG,h,lS⟩);obtain⟨x2,hx2,x3,hx3,h⟩:=cM h;exact eK hC [oC [] [20] (mG G hx2),.z (.at 3),.z (.fz 20 [12] []),.z (.int 0),oA (aM b6 hx3),oM 2 qD out,oM 2 qD [x2]] ⟨x3,(outG+1),h,lS⟩
  rintro x4 g5 h;subst hj1;refine qs (aH hC (qb (iO h (fun x_ g_=>bU [(0,ms 0 g_ 2 b6 x_.1),(3,V.tp (nH e)),(5,vI x_.2)] [(0,ar 90 g_ 2 b6 x_.1)] [0]) g5 (lS) ?_)));rintro again9 ⟨x6,x7⟩ g8 h;refine qs (eQ hC [oN aT e.kids] (aS h (fun c2 h=>?_) fun c2 h=>?_))
  ·refine qk (cU ?_);obtain⟨x10,hx10,x11,hx11,h⟩:=cM h;exact eK hC [.z (.row (eC x10)),oQ (fM aT hx10 (dJ x10)),oC [0] [] (ih x6 g8 x10 hx11)] (bX hC ⟨(x11,wr (x7+1)),(g8+1),h,lS⟩)
  obtain rfl:=so h;exact cE (aH hC (qw (wS 4 0 outG g8 2 0 (x6.map b6).length (e:= .arr 90 g8 2 (x6.map b6)) rfl (by kernel_rfl) (by kernel_rfl) rfl rfl hg.1) zw))
theorem aHI{a}{r}(h:C3 n a=some r):PQ G 305 [V.agg [vS a.name,vM rI a.dims]] (vI r):=by
 refine pq aL Tryz.func305 rfl fun w X hC=>eQ hC [.z (.b (true))] (aH hC (qs (aH hC (qb (gP h (fun x_=>dA [(1,V.tp [T.str a.name,T.sl (List.map rI a.dims)]),(3,vI x_.1),(4,vI x_.2)]) lS ?_)))));rintro again3 ⟨x1,x2⟩ h;refine qs (eQ hC [oN rI a.dims] (aS h (fun c1 h=>?_) fun c1 h=>?_))
 ·refine qk (cU ?_);obtain⟨x4,hx4,h⟩:=bd h;exact eK hC [oR rI hx4] (bX hC (lE h))
 obtain rfl:=so h;exact cE (aH hC zr)
theorem aBb{list}{a}{point}{r}(h:vC n list a point=some r):PQ G 269 [vM aR list,V.agg (cY a),vM rI point] (vI r):=by
 refine pq aL Tryz.func269 rfl fun w X hC=>eQ hC [.z (.b (true))] (aH hC (qs (aH hC (qb (gP h (fun x_=>dA [(0,vM aR list),(2,vM rI point),(4,V.tp (tI a)),(7,vI x_.1),(8,vI x_.2)]) lS ?_)))));rintro again3 ⟨x1,x2⟩ h;refine qs (eQ hC [oN aR list] (aS h (fun c1 h=>?_) fun c1 h=>?_))
 ·refine qk (cU (qs (qs ?_)));obtain⟨x4,hx4,h⟩:=bd h;refine eD hC aV [oR aR hx4] (aS h (fun c2 h=>?_) fun c2 h=>?_)
  ·obtain⟨x5,hx5,h⟩:=bd h;exact eQ hC [oR aR hx4,oV (aHI G hx5)] (cE (bX hC (lE h)))
  refine qk (aH hC (qs (aH hC (qb (gP h (fun x_=>dA [(0,vM aR list),(2,vM rI point),(4,V.tp (tI a)),(7,vI x1),(8,vI x2),(9,vI x_.1),(10,vI x_.2)]) lS ?_)))));rintro again8 ⟨x6,x7⟩ h;refine qs (eQ hC [oN aB a.subs] (aS h (fun c3 h=>?_) fun c3 h=>?_))
  ·refine qk (cU (qs (qs (eD hC aV [oN aB a.subs,oR aR hx4,oN rI x4.dims] ?_))));refine aS h (fun c4 h=>?_) fun c4 h=>?_
   ·cases h;exact aH hC zr
   refine qk ?_;obtain⟨x9,hx9,x10,hx10,h⟩:=cM h;refine eQ hC [oR aB hx9,oV (pQ G hx10)] (qs (vj h (fun x_=>dA [(0,vM aR list),(2,vM rI point),(4,V.tp (tI a)),(7,vI x1),(8,vI x2),(9,vI x6),(10,vI x7),(11,vI x10),(70,vB x_)]) (fun j11 h=>?_) fun x13 h=>?_))
   ·refine aQ h (fun c5 h=>?_) fun c5 h=>eK hC (rT 11 c5) (lE h);obtain⟨x12,hx12,h⟩:=bd h;exact eK hC (rF 4 c5++[oR aR hx4]++rF 4 c5++[oR rI hx12]++rF 3 c5) (lE h)
   refine aS h (fun c6 h=>?_) fun c6 h=>?_
   ·cases h;exact aH hC zr
   refine qk ?_;obtain⟨x14,hx14,h⟩:=bd h;exact eK hC [oR aR hx4,oR rI hx14] (bX hC (lE h))
  cases h;exact cE (aH hC zr)
 cases h;exact cE (aH hC zr)
theorem R8{list}{s}{point}{r}(h:oO n list s point=some r):VQ G 212 [] [vM aR list,V.agg (fT s),vM rI point] (V.tup [ms 0 1 1 rI r.1,vI r.2.1,vB r.2.2]) [ar 3 1 1 rI r.1]:=by
 refine vq aL Tryz.func212 rfl fun w X β0 hC hg=>eQ hC [.z (.b (true))] (eQ hC [.z (.nat 20)] ?_);obtain⟨x1,hx1,h⟩:=bd h;refine eQ hC [.z (.nat 21),oC [21] [] (aFH G n [] 1 s.value hx1)] (qs (aH hC (qb (iO h (fun x_ g_=>bU [(0,vM aR list),(2,vM rI point),(4,V.tp (aOE s)),(9,ms 20 g_ 1 rI x_.1),(10,ms 21 2 2 b6 x1),(11,vI x_.2)] [(20,ar 3 g_ 1 rI x_.1),(21,ar 90 2 2 b6 x1)] [20,21]) 1 (lS) ?_))));rintro again5 ⟨x2,x3⟩ g4 h;refine qs (eQ hC [oN b6 x1] (aS h (fun c1 h=>?_) fun c1 h=>?_))
 ·refine qk (cU ?_);obtain⟨x6,hx6,x7,hx7,h⟩:=cM h;refine eQ hC [oQ (fB b6 hx6),oX b6 hx6,oV (aBb G hx7)] (qs (aH hC (aS h (fun c2 h=>?_) fun c2 h=>?_)))
  ·cases h;exact eQ hC [.z (.nat 22)] (xE hC 6 22)
  refine qk ?_;obtain⟨x8,hx8,h⟩:=bd h;exact eK hC [.z (.int 0),oA (aM rI hx8),oI x2,oI [x7]] (bX hC ⟨(x8,wr (x3+1)),(g4+1),h,lS⟩)
 refine cE ?_;obtain⟨x9,hx9,h⟩:=bd h;refine eQ hC [oV (aBb G hx9)] (qs (aH hC (aS h (fun c3 h=>?_) fun c3 h=>?_)))
 ·cases h;exact eQ hC [.z (.nat 22)] (xE hC 6 22)
 cases h;exact qk (aH hC (xE hC 6 20))
theorem aFL{p}{r}(h:w6 n p=some r):PQ G 213 [vM rI p] (vB r):=by
 refine pq aL Tryz.func213 rfl fun w X hC=>aH hC (qs (aH hC (qb (gP h (fun x_=>dA [(0,vM rI p),(3,vI x_)]) lS ?_))));rintro again2 x1 h;refine qs (eQ hC [oN rI p] (aS h (fun c1 h=>?_) fun c1 h=>?_))
 ·refine qk (cU ?_);obtain⟨x3,hx3,x4,hx4,h⟩:=cM h;refine eQ hC [oR rI hx3,oV (uG G hx4)] (aS h (fun c2 h=>?_) fun c2 h=>qk (bX hC (lE h)));cases h;exact aH hC zr
 cases h;exact cE (eQ hC [oN rI p] zr)
theorem zN{list}{part}{r}(h:sA n list part=some r):PQ G 137 [vM aR list,V.agg (wO part)] (V.tup [vI r.1,vB r.2]):=by
 refine pq aL Tryz.func137 rfl fun w X hC=>eQ hC [.z (.b (true))] ?_;obtain⟨x1,hx1,h⟩:=bd h;refine eQ hC [oC [] [20] (aBo G hx1)] (qs (vj h (fun x_=>bU [(0,vM aR list),(3,V.tp (xZ part)),(6,ms 20 1 1 (rL rI) x1.1),(32,vB x_)] [(20,ar 35 1 1 (rL rI) x1.1)] [20]) (fun j2 h=>?_) fun x3 h=>?_))
 ·exact aQ h (fun c1 h=>aQ h (fun c2 h=>eK hC (rF 3 c1++[oN aP part.body,oF c1,oF c1]++rF 3 c2++[oN aP part.body,oF c2,oF c2]) (lE h)) fun c2 h=>eK hC (rF 3 c1++[oN aP part.body,oF c1,oF c1]++rT 5 c2) (lE h)) fun c1 h=>eK hC (rT 5 c1++sT 5) (lE h)
 refine aS h (fun c3 h=>?_) fun c3 h=>?_
 ·cases h;exact aH hC zr
 refine qk (qs (aH hC (qb (gP h (fun x_=>bU [(0,vM aR list),(3,V.tp (xZ part)),(6,ms 20 1 1 (rL rI) x1.1),(8,vI x_)] [(20,ar 35 1 1 (rL rI) x1.1)] [20]) lS ?_))));rintro again5 x4 h;refine qs (eQ hC [oN aP part.body] (aS h (fun c4 h=>?_) fun c4 h=>?_))
 ·refine qk (cU (qs (qs ?_)));obtain⟨x6,hx6,x7,hx7,h⟩:=cM h;refine eD hC aV [oR aP hx6,oN aC part.nest,oV (rH G hx7)] (aS h (fun c5 h=>?_) fun c5 h=>?_)
  ·cases h;exact aH hC zr
  refine qk (aH hC (qb (gP h (fun x_=>bU [(0,vM aR list),(3,V.tp (xZ part)),(6,ms 20 1 1 (rL rI) x1.1),(8,vI x4),(9,vI x_)] [(20,ar 35 1 1 (rL rI) x1.1)] [20]) lS ?_)));rintro again9 x8 h;refine qs (eQ hC [oN (rL rI) x1.1] (aS h (fun c6 h=>?_) fun c6 h=>cE (bX hC (lE h))));refine qk (cU (qs ?_));obtain⟨x10,hx10,x11,hx11,h⟩:=cM h;refine eD hC aV [oR aP hx6,oQ (fB (rL rI) hx10),oX (rL rI) hx10,oC [] [21] (R8 G hx11)] (vj h (fun x_=>bU [(0,vM aR list),(3,V.tp (xZ part)),(6,ms 20 1 1 (rL rI) x1.1),(8,vI x4),(9,vI x8),(80,vB x_)] [(20,ar 35 1 1 (rL rI) x1.1),(21,ar 3 1 1 rI x11.1)] [20,21]) (fun j12 h=>?_) fun x14 h=>?_)
  ·refine aQ h (fun c7 h=>?_) fun c7 h=>eK hC (rT 7 c7) (lE h);obtain⟨x13,hx13,h⟩:=bd h;exact eK hC (rF 3 c7++[oQ (fB (rL rI) hx10),oF c7,oX (rL rI) hx10,oF c7,oV (aFL G hx13),oF c7,oF c7]) (lE h)
  refine aS h (fun c8 h=>?_) fun c8 h=>qk (bX hC (lE h));cases h;exact aH hC zr
 cases h;exact cE (eQ hC [oN (rL rI) x1.1,oN aP part.body] zr)
theorem dL{p}{r}(h:eN n p=some r):PQ G 63 [V.agg (bV p)] (vB r):=by
 refine pq aL Tryz.func63 rfl fun w X hC=>eQ hC [.z (.b (true))] (qs (vj h (fun x_=>dA [(1,V.tp (fZ p)),(16,vB x_)]) (fun j1 h=>?_) fun x3 h=>?_))
 ·obtain⟨x2,hx2,h⟩:=bd h;exact aQ h (fun c1 h=>eK hC ([oV (I8 G hx2)]++rF 3 c1++[oN aD p.parts,oF c1,oF c1]) (lE h)) fun c1 h=>eK hC ([oV (I8 G hx2)]++rT 5 c1) (lE h)
 refine aS h (fun c2 h=>?_) fun c2 h=>?_
 ·cases h;exact aH hC zr
 refine qk (aH hC (qs (aH hC (qb (gP h (fun x_=>dA [(1,V.tp (fZ p)),(3,vI x_.1),(4,vI x_.2)]) lS ?_)))));rintro again6 ⟨x4,x5⟩ h;refine qs (eQ hC [oN aD p.parts] (aS h (fun c3 h=>?_) fun c3 h=>?_))
 ·refine qk (cU (qs ?_));obtain⟨x7,hx7,x8,hx8,h⟩:=cM h;refine eD hC aV [oR aD hx7,oV (zN G hx8)] (qs (aH hC (aS h (fun c4 h=>?_) fun c4 h=>qk (bX hC (bX hC (lE h))))));cases h;exact aH hC zr
 cases h;exact cE (aH hC zr)
theorem uC(G:GS)(n:Nat){r:(List Arr)}(h:u7 n=some r):PQ G 238 [] (vM aR r):=by refine pq aL Tryz.func238 rfl fun w X hC=>?_;cases h;exact aH hC (eQ hC [.z (.int 0),.z (.int 0),.z (.int 0),.z (.int 0)] zr)
theorem R9{s}{at_a1}{end_a2}{r}(h:L8 n s at_a1 end_a2=some r):PQ G 330 [vS s,vI at_a1,vY end_a2] (vI r):=by
 refine pq aL Tryz.func330 rfl fun w X hC=>aH hC (qs (aH hC (qb (gP h (fun x_=>dA [(0,vS s),(2,vY end_a2),(7,vI x_)]) lS ?_))));rintro again2 x1 h;refine qs (aH hC (aS h (fun c1 h=>?_) fun c1 h=>?_))
 ·refine qk (cU ?_);obtain⟨x3,hx3,h⟩:=bd h;refine eQ hC [oY hx3] (aS h (fun c2 h=>?_) fun c2 h=>qk (bX hC (lE h)));obtain rfl:=so h;exact aH hC zr
 obtain rfl:=so h;exact cE (aH hC zr)
theorem mI(G:GS)(n:Nat){r:Affine}(h:pB n=some r):VQ G 168 [] [] (V.agg [ms 0 1 1 rI r.coefs,vI r.const]) [ar 3 1 1 rI r.coefs]:=by refine vq aL Tryz.func168 rfl fun w X β0 hC hg=>?_;cases h;exact eQ hC [.z (.nat 20)] (eQ hC [.z (.int 1),.z (.nat 21)] (wL hC [.rn 21 0 [] [20]] zw))
theorem aHS{s}{at_a1}{r}(h:aES n s at_a1=some r):PQ G 353 [vS s,vI at_a1] (vI r):=by
 refine pq aL Tryz.func353 rfl fun w X hC=>aH hC (qs (vj h (fun x_=>dA [(0,vS s),(1,vI at_a1),(20,vB x_)]) (fun j1 h=>?_) fun x3 h=>?_))
 ·refine aQ h (fun c1 h=>?_) fun c1 h=>eK hC (rT 5 c1++sT 5) (lE h);obtain⟨x2,hx2,h⟩:=bd h;exact aQ h (fun c2 h=>eK hC (rF 3 c1++[oY hx2,oF c1,oF c1]++rF 3 c2++[oY hx2,oF c2,oF c2]) (lE h)) fun c2 h=>eK hC (rF 3 c1++[oY hx2,oF c1,oF c1]++rT 5 c2) (lE h)
 refine aS h (fun c3 h=>?_) fun c3 h=>?_
 ·cases h;exact aH hC zr
 refine qk ?_;obtain⟨x4,hx4,h⟩:=bd h;cases h;exact eQ hC [oY hx4,.z (.int (x4.toNat:Int)),oQ (u8i x4)] zr
theorem aBn{s}{r}(h:Z8 n s=some r):PQ G 294 [vS s] (V.tup [vI r.1,vB r.2]):=by
 refine pq aL Tryz.func294 rfl fun w X hC=>aH hC (vj h (fun x_=>dA [(0,vS s),(4,vB x_)]) (fun j1 h=>?_) fun x3 h=>?_)
 ·refine aQ h (fun c1 h=>eK hC (rF 4 c1) (lE h)) fun c1 h=>?_;obtain⟨x2,hx2,h⟩:=bd h;exact eK hC [oT c1,oT c1,oY hx2,oT c1,oT c1] (lE h)
 refine vj h (fun x_=>dA [(0,vS x_),(4,vB x3)]) (fun j4 h=>?_) fun x6 h=>?_
 ·refine aH hC (aS h (fun c2 h=>?_) fun c2 h=>qk (lE h));obtain⟨x5,hx5,h⟩:=bd h;exact eK hC [oS hx5] (lE h)
 refine qs (vj h (fun x_=>dA [(0,vS x6),(4,vB x3),(38,vB x_)]) (fun j7 h=>?_) fun x9 h=>?_)
 ·refine aQ h (fun c3 h=>?_) fun c3 h=>eK hC (rT 4 c3++sT 6) (lE h);refine aQ h (fun c4 h=>?_) fun c4 h=>eK hC (rF 4 c3++rT 6 c4) (lE h);obtain⟨x8,hx8,h⟩:=bd h;refine aQ h (fun c5 h=>eK hC (rF 4 c3++[oF c4,oF c4,oY hx8,oF c4,oF c4]++rF 5 c5++[oF c4,oF c5,oF c4]) (lE h)) fun c5 h=>?_;exact aQ h (fun c6 h=>eK hC (rF 4 c3++[oF c4,oF c4,oY hx8,oF c4,oF c4]++rT 4 c5++[oF c6,oT c5,oF c6,oF c4,oT c5,oF c4]) (lE h)) fun c6 h=>eK hC (rF 4 c3++[oF c4,oF c4,oY hx8,oF c4,oF c4]++rT 4 c5++[oT c6,oT c5,oT c6,oF c4,oT c5,oF c4]) (lE h)
 refine aS h (fun c7 h=>?_) fun c7 h=>?_
 ·cases h;exact aH hC zr
 refine qk (aH hC (qs (aH hC (qb (gP h (fun x_=>dA [(0,vS x6),(4,vB x3),(5,vI x_.1),(6,vI x_.2)]) lS ?_)))));rintro again12 ⟨x10,x11⟩ h;refine qs (aH hC (aS h (fun c8 h=>?_) fun c8 h=>?_))
 ·refine qk (cU (qs (vj h (fun x_=>dA [(0,vS x6),(4,vB x3),(5,vI x10),(6,vI x11),(54,vB x_)]) (fun j13 h=>?_) fun x15 h=>?_)))
  ·obtain⟨x14,hx14,h⟩:=bd h;exact aQ h (fun c9 h=>eK hC ([oY hx14]++rF 3 c9++[oY hx14,oF c9,oF c9]) (lE h)) fun c9 h=>eK hC ([oY hx14]++rT 5 c9) (lE h)
  refine aS h (fun c10 h=>?_) fun c10 h=>?_
  ·cases h;exact aH hC zr
  refine qk ?_;obtain⟨x16,hx16,h⟩:=bd h;exact eK hC [oY hx16,.z (.int ((x16-(48:UInt8)).toNat:Int)),oQ (cvu (aPm x16 (48:UInt8)))] (bX hC (lE h))
 refine cE (vj h (fun x_=>dA [(5,vI x_)]) (fun j17 h=>aH hC (aS h (fun c11 h=>bX hC (lE h)) fun c11 h=>qk (lE h))) fun x18 h=>?_);cases h;exact aH hC zr
theorem J0{s}{at_a1}{r}(h:yP n s at_a1=some r):PQ G 332 [vS s,vI at_a1] (V.tup [vI r.1,vI r.2]):=by
 refine pq aL Tryz.func332 rfl fun w X hC=>aH hC (aH hC (cU (gP h (fun x_=>dA [(0,vS s),(1,vI at_a1),(6,vI x_)]) lS ?_)));rintro again2 x1 h;refine qs (vj h (fun x_=>dA [(0,vS s),(1,vI at_a1),(6,vI x1),(31,vB x_)]) (fun j3 h=>?_) fun x5 h=>?_)
 ·refine aQ h (fun c1 h=>eK hC (rF 5 c1++sF 10) (lE h)) fun c1 h=>?_;refine aQ h (fun c2 h=>eK hC (rT 5 c1++rF 5 c2++sF 5) (lE h)) fun c2 h=>?_;obtain⟨x4,hx4,h⟩:=bd h;exact aQ h (fun c3 h=>eK hC (rT 5 c1++rT 3 c2++[oY hx4,oT c2,oT c2]++rF 5 c3) (lE h)) fun c3 h=>eK hC (rT 5 c1++rT 3 c2++[oY hx4,oT c2,oT c2]++rT 3 c3++[oY hx4,oT c3,oT c3]) (lE h)
 refine aS h (fun c4 h=>qk (qb (bX hC (lE h)))) fun c4 h=>?_;refine cE ?_;obtain⟨x6,hx6,x7,hx7,h⟩:=cM h;refine eQ hC [oS hx6,oV (aBn G hx7)] (qs (aH hC (aS h (fun c5 h=>?_) fun c5 h=>?_)))
 ·cases h;exact aH hC zr
 cases h;exact qk (aH hC zr)
theorem aFM{a}{s}{at_a2}{r}(h:aCh n a s at_a2=some r):PQ G 348 [V.agg (aO a),vS s,vI at_a2] (V.tup [V.agg (aO r.1),vI r.2]):=by
 refine pq aL Tryz.func348 rfl fun w X hC=>eQ hC [.z (.b (true)),.z (.nat 20)] (aH hC (vj h (fun x_=>bU [(1,vS s),(2,vI at_a2),(3,V.tp (cN a)),(6,V.ref 20 0),(8,vI x_)] [(20,E.cells [cD,vI 0])] [20]) (fun j1 h=>?_) fun x3 h=>?_))
 ·obtain⟨x2,hx2,h⟩:=bd h;exact eQ hC [oY hx2] (aS h (fun c1 h=>bX hC (lE h)) fun c1 h=>qk (lE h))
 refine vj h (fun x_=>bU [(1,vS s),(2,vI x_),(3,V.tp (cN a)),(6,V.ref 20 0),(8,vI x3)] [(20,E.cells [cD,vI 0])] [20]) (fun j4 h=>?_) fun x8 h=>?_
 ·refine vj h (fun x_=>bU [(1,vS s),(2,vI at_a2),(3,V.tp (cN a)),(6,V.ref 20 0),(8,vI x3),(27,vB x_)] [(20,E.cells [cD,vI 0])] [20]) (fun j5 h=>?_) fun x7 h=>aS h (fun c3 h=>bX hC (lE h)) fun c3 h=>qk (lE h);obtain⟨x6,hx6,h⟩:=bd h;exact aQ h (fun c2 h=>eK hC ([oY hx6]++rF 3 c2++[oY hx6,oF c2,oF c2]) (lE h)) fun c2 h=>eK hC ([oY hx6]++rT 5 c2) (lE h)
 obtain⟨x9,hx9,h⟩:=bd h;refine eQ hC [oV (J0 G hx9)] (aH hC (vj h (fun x_=>bU [(1,vS s),(2,vI x8),(3,V.tp (cN a)),(6,V.ref 20 0),(8,vI x3),(9,vI x9.1),(10,vI x9.2),(11,vI x_)] [(20,E.cells [cD,vI 0])] [20]) (fun j10 h=>?_) fun x14 h=>?_))
 ·refine vj h (fun x_=>bU [(1,vS s),(2,vI x8),(3,V.tp (cN a)),(6,V.ref 20 0),(8,vI x3),(9,vI x9.1),(10,vI x9.2),(11,vI x9.2),(51,vB x_)] [(20,E.cells [cD,vI 0])] [20]) (fun j11 h=>?_) fun x13 h=>aS h (fun c6 h=>bX hC (lE h)) fun c6 h=>qk (lE h);refine aQ h (fun c4 h=>eK hC (rF 5 c4++sF 5) (lE h)) fun c4 h=>?_;refine aQ h (fun c5 h=>eK hC (rT 5 c4++rF 5 c5) (lE h)) fun c5 h=>?_;obtain⟨x12,hx12,h⟩:=bd h;exact eK hC (rT 5 c4++rT 3 c5++[oY hx12,oT c5,oT c5]) (lE h)
 obtain⟨x15,hx15,h⟩:=bd h;refine eQ hC [oV (aHS G hx15)] (qs ?_);obtain⟨x16,hx16,h⟩:=bd h;refine eD hC aV [.z (.nat 21),oA (aM rI hx16),.z (.nat 22),oI [],oI a.coefs] (qs (vj h (fun x_=>bU [(2,vI x8),(3,V.tp (cN a)),(6,V.ref 20 0),(8,vI x3),(9,vI x9.1),(10,vI x9.2),(11,vI x14),(12,vI x15),(13,V.ref 22 0),(75,vB x_)] [(20,E.cells [cD,vI 0]),(21,ar 3 2 1 rI x16),(22,E.cells [ms 21 2 1 rI x16,vI a.const])] [20,21,22]) (fun j17 h=>aQ h (fun c7 h=>eK hC (rF 6 c7) (lE h)) fun c7 h=>aQ h (fun c8 h=>eK hC (rT 4 c7++rF 3 c8++[oT c7,oF c8,oT c7]) (lE h)) fun c8 h=>eK hC (rT 4 c7++rT 3 c8++[oT c7,oT c8,oT c7]) (lE h)) fun x18 h=>?_));refine aS h (fun c9 h=>?_) fun c9 h=>?_
 ·refine qs ?_;obtain⟨x19,hx19,x20,hx20,h⟩:=cM h;cases h;exact eD hC aV [oQ (fB rI hx19),oX rI hx19,oQ (fB rI hx19),oX rI hx19,.z (.rows (x20.map rI)),oQ (str rI hx20)] (wP hC [.lenc 22 0 (x20.map rI).length] (a1 (eS rI hx20)) (eQ hC [.z (.at 5),.z (.fz 21 [] [22])] zr))
 refine qk (qs (aH hC (aS h (fun c10 h=>?_) fun c10 h=>?_)))
 ·cases h;exact aH hC zr
 cases h;exact qk (aH hC (eQ hC [.z (.at 4),.z (.fz 21 [] [22])] zr))
theorem uH(G:GS): ∀(n:Nat) (n_a0:Int) {r:(List UInt8)} (h:s_l16Dec n n_a0=some r),PQ G 259 [vI n_a0] (vS r):=by
 intro n;induction n with
 |zero=>intro n_a0 r h;rw [s_l16Dec.eq_def] at h;cases h
 |succ n ih=>
  intro n_a0 r h;rw [s_l16Dec.eq_def] at h;dsimp only at h;refine pq aL Tryz.func259 rfl fun w X hC=>aH hC (qs (aH hC (aS h (fun c1 h=>?_) fun c1 h=>?_)))
  ·obtain rfl:=so h;exact aH hC zr
  refine qk (qs (aH hC (aS h (fun c2 h=>?_) fun c2 h=>?_)))
  ·obtain⟨x1,hx1,x2,hx2,h⟩:=cM h;obtain rfl:=so h;exact eQ hC [oV (ih (wr (0-n_a0)) hx1),oS hx2] zr
  refine qk (aH hC (cU (gP h (fun x_=>dA [(0,vI x_.1),(3,vS x_.2)]) lS ?_)));rintro again5 ⟨x3,x4⟩ h;refine qs (aH hC (aS h (fun c3 h=>?_) fun c3 h=>?_))
  ·refine qk (qb ?_);obtain⟨x6,hx6,h⟩:=bd h;exact eQ hC [.z (.y (UInt8.ofInt (wr (48+(Int.tmod x3 10))))),.z (.int 0),.z (.str [UInt8.ofInt (wr (48+(Int.tmod x3 10)))]),oQ (show(10:Int)≠0 by decide),oQ (Eq.refl (UInt8.ofInt (wr (48+(Int.tmod x3 10))))),oQ (Eq.refl (List.map lM [UInt8.ofInt (wr (48+(Int.tmod x3 10)))])),oS hx6] (eK hC [oQ (show(10:Int)≠0 by decide)] (lE h))
  refine cE ?_;obtain⟨x7,hx7,h⟩:=bd h;obtain rfl:=so h;exact eQ hC [.z (.y (UInt8.ofInt (wr (48+x3)))),.z (.int 0),.z (.str [UInt8.ofInt (wr (48+x3))]),oQ (Eq.refl (UInt8.ofInt (wr (48+x3)))),oQ (Eq.refl (List.map lM [UInt8.ofInt (wr (48+x3))])),oS hx7] zr
theorem aBi{n_a0}{name}{r}(h:Z7 n n_a0 name=some r):PQ G 333 [vI n_a0,vS name] (vS r):=by
 refine pq aL Tryz.func333 rfl fun w X hC=>aH hC (aH hC (vj h (fun x_=>dA [(0,vI x_.1),(1,vS name),(5,vS x_.2)]) (fun j1 h=>aH hC (aS h (fun c1 h=>aH hC (bX hC (lE h))) fun c1 h=>qk (lE h))) ?_));rintro⟨x2,x3⟩ h;refine qs (aH hC (aS h (fun c2 h=>?_) fun c2 h=>?_))
 ·obtain⟨x4,hx4,x5,hx5,h⟩:=cM h;obtain rfl:=so h;exact eQ hC [oV (uH G n x2 hx4),oS hx5] zr
 refine qk (qs (aH hC (aS h (fun c3 h=>?_) fun c3 h=>?_)))
 ·obtain⟨x6,hx6,h⟩:=bd h;obtain rfl:=so h;exact eQ hC [oS hx6] zr
 refine qk ?_;obtain⟨x7,hx7,x8,hx8,x9,hx9,h⟩:=iL h;obtain⟨x10,hx10,h⟩:=bd h;obtain rfl:=so h;exact eQ hC [oV (uH G n x2 hx7),oS hx8,oS hx9,oS hx10] zr
theorem zQ{a}{r}(h:D3 n a=some r):PQ G 300 [V.agg (aO a)] (vS r):=by
 refine pq aL Tryz.func300 rfl fun w X hC=>eQ hC [.z (.b (true))] (aH hC (qs (aH hC (qb (gP h (fun x_=>dA [(1,V.tp (cN a)),(3,vS x_.1),(4,vI x_.2)]) lS ?_)))));rintro again3 ⟨x1,x2⟩ h;refine qs (eQ hC [oN rI a.coefs] (aS h (fun c1 h=>?_) fun c1 h=>?_))
 ·refine qk (vj h (fun x_=>dA [(1,V.tp (cN a)),(3,vS x_),(4,vI x2)]) (fun j4 h=>?_) fun x9 h=>bX hC (lE h));refine qb ?_;obtain⟨x5,hx5,h⟩:=bd h;refine eQ hC [oR rI hx5] (aS h (fun c2 h=>?_) fun c2 h=>qk (lE h));obtain⟨x6,hx6,x7,hx7,x8,hx8,h⟩:=iL h;exact eD hC aV [oR rI hx5,oS hx6,oV (aBi G hx7),oS hx8] (lE h)
 refine cE (vj h (fun x_=>dA [(3,vS x_)]) (fun j10 h=>?_) fun x13 h=>?_)
 ·refine aH hC (aS h (fun c3 h=>?_) fun c3 h=>qk (lE h));obtain⟨x11,hx11,x12,hx12,h⟩:=cM h;exact eK hC [oV (aBi G hx11),oS hx12] (lE h)
 refine qs (aH hC (aS h (fun c4 h=>?_) fun c4 h=>?_))
 ·obtain rfl:=so h;exact aH hC zr
 refine qk (qs ?_);obtain⟨x14,hx14,h⟩:=bd h;refine eQ hC [oS hx14] (aS h (fun c5 h=>?_) fun c5 h=>?_)
 ·obtain⟨x15,hx15,h⟩:=bd h;obtain rfl:=so h;exact eQ hC [oS hx15] zr
 obtain rfl:=so h;exact qk (aH hC zr)
theorem P3{a}{r}(h:vH n a=some r):PQ G 349 [V.agg (aO a)] (vS r):=by
 refine pq aL Tryz.func349 rfl fun w X hC=>eQ hC [.z (.b (true))] (qs ?_);obtain⟨x1,hx1,h⟩:=bd h;refine eQ hC [oV (d8 G hx1)] (aS h (fun c1 h=>?_) fun c1 h=>?_)
 ·obtain rfl:=so h;exact aH hC zr
 refine qk ?_;obtain⟨x2,hx2,h⟩:=bd h;obtain rfl:=so h;exact eQ hC [oV (zQ G hx2)] zr
theorem uP{text}{r}(h:q7 n text=some r):PQ G 329 [vS text] (V.tup [V.agg (aO r.1),vB r.2]):=by
 refine pq aL Tryz.func329 rfl fun w X hC=>eQ hC [.z (.nat 20)] ?_;obtain⟨x1,hx1,h⟩:=bd h;refine eQ hC [oC [] [21] (mI G n hx1),.z (.nat 22)] (qs (aH hC (aS h (fun c1 h=>?_) fun c1 h=>?_)))
 ·cases h;exact aH hC zr
 refine qk (aH hC (cU (wL hC [.fz 21 [] [22]] (gP h (fun x_=>bU [(0,vS text),(2,V.ref 20 0),(4,V.ref 22 0),(5,vI x_.2.2)] [(20,E.cells [cD,vI 0]),(22,E.cells [vM rI x_.1,vI x_.2.1])] [20,21,22]) lS ?_))));rintro again5 ⟨x2,x3,x4⟩ h;refine qs (vj h (fun x_=>bU [(0,vS text),(2,V.ref 20 0),(4,V.ref 22 0),(5,vI x4),(18,vB x_)] [(20,E.cells [cD,vI 0]),(22,E.cells [vM rI x2,vI x3])] [20,21,22]) (fun j6 h=>aQ h (fun c2 h=>eK hC (rF 5 c2) (lE h)) fun c2 h=>eK hC (rT 5 c2) (lE h)) fun x7 h=>?_);refine aS h (fun c3 h=>?_) fun c3 h=>?_
 ·refine qk (qb ?_);obtain⟨x8,hx8,h⟩:=bd h;exact eK hC [oV (aFM G hx8)] (lE h)
 refine cE (qs ?_);obtain⟨x9,hx9,h⟩:=bd h;refine eQ hC [oV (P3 G hx9)] (aS h (fun c4 h=>?_) fun c4 h=>?_)
 ·cases h;exact aH hC zr
 cases h;exact qk (aH hC zr)
theorem zV{s}{c}{r}(h:D5 n s c=some r):VQ G 207 [] [vS s,vY c] (ms 0 1 1 rS r) [ar 9 1 1 rS r]:=by
 refine vq aL Tryz.func207 rfl fun w X β0 hC hg=>aH hC (eQ hC [.z (.nat 20)] (aH hC (qs (aH hC ?_))));refine qb (iO h (fun x_ g_=>bU [(0,vS s),(1,vY c),(5,ms 20 g_ 1 rS x_.1),(6,vI x_.2.1),(7,vI x_.2.2)] [(20,ar 9 g_ 1 rS x_.1)] [20]) 1 (lS) ?_);rintro again5 ⟨x1,x2,x3⟩ g4 h;refine qs (aH hC (aS h (fun c1 h=>?_) fun c1 h=>?_))
 ·refine qk ?_;obtain⟨j6,hj6,h⟩:=xU h;refine iN (γ:=Nat) (j:=j6) (r:=r) (fun x_ g_=>bU [(0,vS s),(1,vY c),(5,ms 20 g_ 1 rS x_.1),(6,vI x_.2),(7,vI x3)] [(20,ar 9 g_ 1 rS x_.1)] [20]) ?_ ?_
  ·refine qb (vj h (fun x_=>bU [(0,vS s),(1,vY c),(5,ms 20 g4 1 rS x1),(6,vI x2),(7,vI x3),(25,vB x_)] [(20,ar 9 g4 1 rS x1)] [20]) (fun j7 h=>?_) fun x9 h=>?_)
   ·refine aQ h (fun c2 h=>?_) fun c2 h=>eK hC (rT 6 c2) (lE h);obtain⟨x8,hx8,h⟩:=bd h;exact eK hC (rF 3 c2++[oY hx8]++rF 3 c2) (lE h)
   refine aS h (fun c3 h=>?_) fun c3 h=>qk ⟨(x1,x2),g4,h,lS⟩;obtain⟨x10,hx10,x11,hx11,h⟩:=cM h;exact eQ hC [oS hx10,.z (.int 0),oA (aM rS hx11),oQ (rwM (r:=rS) 1 (fun _=>rfl) x1),oQ (rwM (r:=rS) 1 (fun _=>rfl) [x10])] (bX hC ⟨(x11,wr (x3+1)),(g4+1),h,lS⟩)
  rintro⟨x12,x13⟩ g14 h;subst hj6;exact bX hC ⟨(x12,x13,wr (x3+1)),g14,h,lS⟩
 obtain rfl:=so h;exact cE (aH hC (xE hC 4 20))
theorem nE{text}{r}(h:mL n text=some r):VQ G 295 [] [vS text] (ms 0 1 2 aB r) [ar 70 1 2 aB r]:=by
 refine vq aL Tryz.func295 rfl fun w X β0 hC hg=>aH hC (eQ hC [.z (.nat 20)] ?_);obtain⟨x1,hx1,h⟩:=bd h;refine eQ hC [oC [] [21] (zV G hx1)] (qs (aH hC (qb (iO h (fun x_ g_=>bU [(3,ms 20 g_ 2 aB x_.1),(4,ms 21 1 1 rS x1),(5,vI x_.2)] [(20,ar 70 g_ 2 aB x_.1),(21,ar 9 1 1 rS x1)] [20,21]) 1 (lS) ?_))));rintro again5 ⟨x2,x3⟩ g4 h;refine qs (vj h (fun x_=>bU [(3,ms 20 g4 2 aB x2),(4,ms 21 1 1 rS x1),(5,vI x3),(18,vB x_)] [(20,ar 70 g4 2 aB x2),(21,ar 9 1 1 rS x1)] [20,21]) (fun j6 h=>aQ h (fun c1 h=>eK hC ([oN rS x1]++rF 3 c1) (lE h)) fun c1 h=>eK hC ([oN rS x1]++rT 3 c1) (lE h)) fun x7 h=>?_);refine aS h (fun c2 h=>?_) fun c2 h=>?_
 ·refine qk (cU ?_);obtain⟨x8,hx8,x9,hx9,h⟩:=cM h;refine eQ hC [oQ (fB rS hx8),oX rS hx8,oV (uP G hx9),.z (.nat 22)] ?_;obtain⟨x10,hx10,h⟩:=bd h;exact eK hC [.z (.int 0),oA (aM aB hx10),oM 2 aU x2,oM 2 aU [x9.1]] (bX hC ⟨(x10,wr (x3+1)),(g4+1),h,lS⟩)
 obtain rfl:=so h;exact cE (aH hC (xE hC 2 20))
theorem qT{s}{at_a1}{r}(h:nB n s at_a1=some r):PQ G 296 [vS s,vI at_a1] (V.tup [V.agg (cY r.1),vI r.2]):=by
 refine pq aL Tryz.func296 rfl fun w X hC=>eQ hC [.z (.nat 20)] ?_;obtain⟨x1,hx1,h⟩:=bd h;refine eQ hC [oV (R9 G hx1)] (qs (vj h (fun x_=>bU [(0,vS s),(1,vI at_a1),(4,V.ref 20 0),(6,vI x1),(20,vB x_)] [(20,E.cells [vS [],cD])] [20]) (fun j2 h=>?_) fun x4 h=>?_))
 ·refine aQ h (fun c1 h=>?_) fun c1 h=>eK hC (rT 6 c1) (lE h);obtain⟨x3,hx3,h⟩:=bd h;exact eK hC (rF 4 c1++[oY hx3,oF c1,oF c1]) (lE h)
 refine aS h (fun c2 h=>?_) fun c2 h=>?_
 ·cases h;exact aH hC zr
 refine qk (qs ?_);obtain⟨x5,hx5,x6,hx6,x7,hx7,h⟩:=iL h;cases h;exact eD hC aV [oS hx5,oS hx6,oC [] [21] (nE G hx7)] (wL hC [.fz 21 [] [20]] zr)
theorem aFG(G:GS)(n:Nat)(self:(List UInt8)→Int→Int→Option (Expr×Int))(hself: ∀(q0:List UInt8) (q1:Int) (q2:Int) {r:Expr×Int},self q0 q1 q2=some r→PQ G 297 [vS q0,vI q1,vI q2] (V.tup [V.agg (eG r.1),vI r.2]))(s:List UInt8)(at_a1:Int)(levels:Int){r:Expr×Int}(h:aCf n self s at_a1 levels=some r):PQ G 331 [vS s,vI at_a1,vI levels] (V.tup [V.agg (eG r.1),vI r.2]):=by
 refine pq aL Tryz.func331 rfl fun w X hC=>eQ hC [.z (.nat 20)] ?_;obtain⟨x1,hx1,h⟩:=bd h;refine eQ hC [oV (hself s at_a1 levels hx1),.z (.nat 21)] (qs (vj h (fun x_=>bU [(0,vS s),(2,vI levels),(6,V.ref 20 0),(8,V.ref 21 0),(9,vI x1.2),(27,vB x_)] [(20,E.cells [vI 0,vI 0,cD,vI 0,vS [],cD,cD]),(21,E.cells (eG x1.1))] [20,21]) (fun j2 h=>aQ h (fun c1 h=>eK hC (rF 5 c1) (lE h)) fun c1 h=>eK hC (rT 5 c1) (lE h)) fun x3 h=>?_));refine aS h (fun c2 h=>?_) fun c2 h=>?_
 ·cases h;exact aH hC zr
 refine qk (aH hC (vj h (fun x_=>bU [(0,vS s),(2,vI levels),(6,V.ref 20 0),(8,V.ref 21 0),(9,vI x1.2),(10,vI x_)] [(20,E.cells [vI 0,vI 0,cD,vI 0,vS [],cD,cD]),(21,E.cells (eG x1.1))] [20,21]) (fun j4 h=>?_) fun x6 h=>?_))
 ·obtain⟨x5,hx5,h⟩:=bd h;exact eQ hC [oY hx5] (qb (aH hC (aS h (fun c3 h=>bX hC (lE h)) fun c3 h=>aH hC (aS h (fun c4 h=>bX hC (lE h)) fun c4 h=>qk (lE h)))))
 obtain⟨x7,hx7,h⟩:=bd h;refine eQ hC [oV (hself s (wr (x1.2+1)) levels hx7),.z (.nat 22)] (qs (vj h (fun x_=>bU [(6,V.ref 20 0),(8,V.ref 21 0),(10,vI x6),(11,V.ref 22 0),(12,vI x7.2),(51,vB x_)] [(20,E.cells [vI 0,vI 0,cD,vI 0,vS [],cD,cD]),(21,E.cells (eG x1.1)),(22,E.cells (eG x7.1))] [20,21,22]) (fun j8 h=>aQ h (fun c5 h=>eK hC (rF 5 c5) (lE h)) fun c5 h=>eK hC (rT 5 c5) (lE h)) fun x9 h=>?_));refine aS h (fun c6 h=>?_) fun c6 h=>?_
 ·cases h;exact aH hC zr
 cases h;exact qk (eQ hC [.z (.int 2),.z (.rows (List.map aT [x1.1,x7.1])),oQ (aOf x1.1 x7.1)] zr)
theorem aFI(G:GS): ∀(n:Nat) (s:List UInt8) (at_a1:Int) (levels:Int) {r:Expr×Int} (h:s_l3Parse n s at_a1 levels=some r),PQ G 297 [vS s,vI at_a1,vI levels] (V.tup [V.agg (eG r.1),vI r.2]):=by
 intro n;induction n with
 |zero=>intro s at_a1 levels r h;rw [s_l3Parse.eq_def] at h;cases h
 |succ n ih=>
  intro s at_a1 levels r h;rw [s_l3Parse.eq_def] at h;dsimp only at h;refine pq aL Tryz.func297 rfl fun w X hC=>eQ hC [.z (.nat 20)] (qs (vj h (fun x_=>bU [(0,vS s),(1,vI at_a1),(2,vI levels),(6,V.ref 20 0),(26,vB x_)] [(20,E.cells [vI 0,vI 0,cD,vI 0,vS [],cD,cD])] [20]) (fun j1 h=>aQ h (fun c1 h=>aQ h (fun c2 h=>eK hC (rF 3 c1++rF 5 c2) (lE h)) fun c2 h=>eK hC (rF 3 c1++rT 5 c2) (lE h)) fun c1 h=>eK hC (rT 3 c1++sT 5) (lE h)) fun x2 h=>?_));refine aS h (fun c3 h=>?_) fun c3 h=>?_
  ·cases h;exact aH hC zr
  refine qk (cU ?_);obtain⟨x3,hx3,h⟩:=bd h;refine eQ hC [oY hx3] (aS h (fun c4 h=>?_) fun c4 h=>?_)
  ·obtain⟨x4,hx4,h⟩:=bd h;refine eQ hC [oV (R9 G hx4)] (qs (aH hC (aS h (fun c5 h=>?_) fun c5 h=>?_)))
   ·cases h;exact aH hC zr
   refine qk ?_;obtain⟨x5,hx5,x6,hx6,h⟩:=cM h;cases h;exact eQ hC [oS hx5,oV (uP G hx6),.z (.nat 21)] (aH hC zr)
  refine vj h (fun x_=>bU [(0,vS s),(1,vI at_a1),(2,vI levels),(6,V.ref 20 0),(52,vB x_)] [(20,E.cells [vI 0,vI 0,cD,vI 0,vS [],cD,cD])] [20]) (fun j7 h=>aQ h (fun c6 h=>eK hC ([oY hx3]++rF 5 c6) (lE h)) fun c6 h=>eK hC ([oY hx3]++rT 3 c6++[oY hx3,oT c6,oT c6]) (lE h)) fun x8 h=>?_;refine aS h (fun c7 h=>?_) fun c7 h=>?_
  ·obtain⟨x9,hx9,h⟩:=bd h;cases h;exact eQ hC [oV (qT G hx9),.z (.nat 21)] (aH hC zr)
  refine eQ hC [oY hx3] (aS h (fun c8 h=>?_) fun c8 h=>?_)
  ·obtain⟨x10,hx10,h⟩:=bd h;cases h;exact eQ hC [oV (aFG G n (s_l3Parse n) (fun q0 q1 q2 r h=>ih q0 q1 q2 h) s (wr (at_a1+1)) (wr (levels-1)) hx10)] zr
  refine qk ?_;obtain⟨x11,hx11,h⟩:=bd h;refine eQ hC [oV (J0 G hx11)] (qs (aH hC (aS h (fun c9 h=>?_) fun c9 h=>?_)))
  ·cases h;exact aH hC zr
  cases h;exact qk (aH hC zr)
theorem pP{list}{r}(h:nN n list=some r):PQ G 299 [vM aB list] (vS r):=by
 refine pq aL Tryz.func299 rfl fun w X hC=>aH hC (aH hC (qs (aH hC (qb (gP h (fun x_=>dA [(0,vM aB list),(3,vS x_.1),(4,vI x_.2)]) lS ?_)))));rintro again3 ⟨x1,x2⟩ h;refine qs (eQ hC [oN aB list] (aS h (fun c1 h=>?_) fun c1 h=>?_))
 ·refine qk (cU (vj h (fun x_=>dA [(0,vM aB list),(3,vS x_),(4,vI x2)]) (fun j4 h=>?_) fun x6 h=>?_))
  ·refine aH hC (aS h (fun c2 h=>?_) fun c2 h=>qk (lE h));obtain⟨x5,hx5,h⟩:=bd h;exact eK hC [oS hx5] (lE h)
  obtain⟨x7,hx7,x8,hx8,x9,hx9,h⟩:=iL h;exact eK hC [oR aB hx7,oV (zQ G hx8),oS hx9] (bX hC (lE h))
 obtain rfl:=so h;exact cE (aH hC zr)
theorem mH{a}{r}(h:kW n a=some r):PQ G 261 [V.agg (cY a)] (vS r):=by refine pq aL Tryz.func261 rfl fun w X hC=>eQ hC [.z (.b (true))] (qs ?_);obtain⟨x1,hx1,x2,hx2,x3,hx3,h⟩:=iL h;obtain⟨x4,hx4,h⟩:=bd h;obtain rfl:=so h;exact eD hC aV [oS hx1,oV (pP G hx2),oS hx3,oS hx4] zr
theorem aBc(G:GS): ∀(n:Nat) (e:Expr) {r:(List UInt8)} (h:s_l3Text n e=some r),PQ G 262 [V.agg (eG e)] (vS r):=by
 intro n;induction n with
 |zero=>intro e r h;rw [s_l3Text.eq_def] at h;cases h
 |succ n ih=>
  intro e r h;rw [s_l3Text.eq_def] at h;dsimp only at h;refine pq aL Tryz.func262 rfl fun w X hC=>eQ hC [.z (.b (true))] (qs (aH hC (qb (aH hC (aS h (fun c1 h=>?_) fun c1 h=>?_)))))
  ·obtain⟨x1,hx1,h⟩:=bd h;obtain rfl:=so h;exact eQ hC [oV (uH G n e.num hx1)] zr
  refine aH hC (aS h (fun c2 h=>?_) fun c2 h=>?_)
  ·obtain⟨x2,hx2,x3,hx3,x4,hx4,h⟩:=iL h;obtain rfl:=so h;exact eQ hC [oV (zQ G hx2),oS hx3,oS hx4] zr
  refine aH hC (aS h (fun c3 h=>?_) fun c3 h=>?_)
  ·obtain⟨x5,hx5,h⟩:=bd h;obtain rfl:=so h;exact eQ hC [oV (mH G hx5)] zr
  refine qk (qs ?_);obtain⟨x6,hx6,x7,hx7,x8,hx8,h⟩:=iL h;obtain⟨x9,hx9,x10,hx10,x11,hx11,h⟩:=iL h;obtain⟨x12,hx12,x13,hx13,x14,hx14,h⟩:=iL h;obtain rfl:=so h;exact eD hC aV [.z (.row (eC x6)),oQ (fM aT hx6 (dJ x6)),oV (ih x6 hx7),oS hx8,oS hx9,oS hx10,.z (.row (eC x11)),oQ (fM aT hx11 (dJ x11)),oV (ih x11 hx12),oS hx13,oS hx14] zr
theorem aBp{s}{r}(h:D6 n s=some r):PQ G 298 [V.agg (fT s)] (vS r):=by
 refine pq aL Tryz.func298 rfl fun w X hC=>eQ hC [.z (.b (true))] (qs ?_);obtain⟨x1,hx1,h⟩:=bd h;refine eQ hC [oV (rH G hx1)] (aS h (fun c1 h=>?_) fun c1 h=>?_)
 ·obtain rfl:=so h;exact aH hC zr
 refine qk (qs ?_);obtain⟨x2,hx2,x3,hx3,x4,hx4,h⟩:=iL h;obtain⟨x5,hx5,h⟩:=bd h;obtain rfl:=so h;exact eD hC aV [oV (mH G hx2),oS hx3,oV (aBc G n s.value hx4),oS hx5] zr
theorem yH{text}{r}(h:qB n text=some r):PQ G 258 [vS text] (V.tup [V.agg (fT r.1),vB r.2]):=by
 refine pq aL Tryz.func258 rfl fun w X hC=>eQ hC [.z (.nat 20)] (qs (aH hC (aS h (fun c1 h=>?_) fun c1 h=>?_)))
 ·cases h;exact aH hC zr
 refine qk ?_;obtain⟨x1,hx1,h⟩:=bd h;refine eQ hC [oV (qT G hx1),.z (.nat 21)] (qs (vj h (fun x_=>bU [(0,vS text),(2,V.ref 20 0),(4,V.ref 21 0),(5,vI x1.2),(25,vB x_)] [(20,E.cells [vS [],cD,vI 0,vI 0,cD,vI 0,vS [],cD,cD]),(21,E.cells (cY x1.1))] [20,21]) (fun j2 h=>aQ h (fun c2 h=>eK hC (rF 5 c2) (lE h)) fun c2 h=>eK hC (rT 5 c2) (lE h)) fun x3 h=>?_));refine aS h (fun c3 h=>?_) fun c3 h=>?_
 ·cases h;exact aH hC zr
 refine qk ?_;obtain⟨x4,hx4,h⟩:=bd h;refine eQ hC [oV (aFI G n text (wr (x1.2+1)) 5 hx4),.z (.nat 22)] (eQ hC [.z (.nat 23)] (qs ?_));obtain⟨x5,hx5,h⟩:=bd h;refine eQ hC [oV (aBp G hx5)] (aS h (fun c4 h=>?_) fun c4 h=>?_)
 ·cases h;exact aH hC zr
 cases h;exact qk (aH hC zr)
theorem dR{n_a0}{r}(h:d4 n n_a0=some r):VQ G 165 [] [vI n_a0] (V.agg [ms 0 1 1 rI r.coefs,vI r.const]) [ar 3 1 1 rI r.coefs]:=by refine vq aL Tryz.func165 rfl fun w X β0 hC hg=>eQ hC [.z (.nat 20)] ?_;obtain⟨x1,hx1,h⟩:=bd h;cases h;exact eQ hC [oC [] [21] (mI G n hx1),.z (.nat 22)] (aH hC (aH hC (wL hC [.rn 21 0 [] [20,22]] zw)))
theorem aFP{sizes}{r}(h:L9 n sizes=some r):VQ G 282 [] [vM rI sizes] (V.tup [ms 0 1 2 aC r.1,vB r.2]) [ar 64 1 2 aC r.1]:=by
 refine vq aL Tryz.func282 rfl fun w X β0 hC hg=>aH hC (eQ hC [.z (.nat 20)] (qs (eQ hC [oN rI sizes] (aS h (fun c1 h=>?_) fun c1 h=>?_))))
 ·cases h;exact aH hC (xE hC 2 20)
 refine qk (qs (aH hC (qb (iO h (fun x_ g_=>bU [(0,vM rI sizes),(4,ms 20 g_ 2 aC x_.1),(5,vI x_.2)] [(20,ar 64 g_ 2 aC x_.1)] [20]) 1 (lS) ?_))));rintro again4 ⟨x1,x2⟩ g3 h;refine qs (eQ hC [oN rI sizes] (aS h (fun c2 h=>?_) fun c2 h=>?_))
 ·refine qk (cU (qs (vj h (fun x_=>bU [(0,vM rI sizes),(4,ms 20 g3 2 aC x1),(5,vI x2),(28,vB x_)] [(20,ar 64 g3 2 aC x1)] [20]) (fun j5 h=>?_) fun x7 h=>?_)))
  ·obtain⟨x6,hx6,h⟩:=bd h;exact aQ h (fun c3 h=>eK hC ([oR rI hx6]++rF 3 c3++[oR rI hx6]++rF 3 c3) (lE h)) fun c3 h=>eK hC ([oR rI hx6]++rT 6 c3) (lE h)
  refine aS h (fun c4 h=>?_) fun c4 h=>?_
  ·cases h;exact eQ hC [.z (.nat 21)] (xE hC 2 21)
  refine qk ?_;obtain⟨x8,hx8,x9,hx9,x10,hx10,h⟩:=iL h;obtain⟨x11,hx11,h⟩:=bd h;exact eD hC aV [oC [] [21] (mI G n hx8),.z (.at 11),.z (.fz 21 [31] []),.z (.int 0),oR rI hx9,oC [] [22] (dR G hx10),.z (.at 5),.z (.fz 22 [37] []),.z (.int 0),.z (.int 0),oA (aM aC hx11),oM 2 cH x1,oM 2 cH [(⟨[x8],[x10]⟩:Loop)]] (bX hC ⟨(x11,wr (x2+1)),(g3+1),h,lS⟩)
 cases h;exact cE (aH hC (xE hC 2 20))
theorem rG{a}{x}{b}{y}{r}(h:kT n a x b y=some r):VQ G 164 [] [V.agg (aO a),vI x,V.agg (aO b),vI y] (V.agg [ms 0 1 1 rI r.coefs,vI r.const]) [ar 3 1 1 rI r.coefs]:=by
 refine vq aL Tryz.func164 rfl fun w X β0 hC hg=>eQ hC [.z (.b (true)),.z (.b (true)),.z (.nat 20)] (eQ hC [.z (.nat 21)] (qs (aH hC (qb (wL hC [.growc 21 0 22 3] ?_)))));refine iO h (fun x_ g_=>bU [(1,vI x),(3,vI y),(4,V.tp (cN a)),(6,V.tp (cN b)),(8,V.ref 20 0),(9,V.ref 21 0),(10,vI x_.2)] [(20,E.cells [cD,vI 0]),(21,E.cells [ms 22 g_ 1 rI x_.1,vI (wr ((wr (x*a.const))+(wr (y*b.const))))]),(22,ar 3 g_ 1 rI x_.1)] [20,21,22]) 1 (lS) ?_;rintro again4 ⟨x1,x2⟩ g3 h;refine qs (aH hC (aS h (fun c1 h=>?_) fun c1 h=>?_))
 ·refine qk (cU ?_);obtain⟨x5,hx5,x6,hx6,x7,hx7,h⟩:=iL h;exact eD hC aV [oR rI hx5,oR rI hx6,.z (.int 0),oA (aM rI hx7),oI x1,oI [wr ((wr (x*x5))+(wr (y*x6)))]] (bX hC ⟨(x7,wr (x2+1)),(g3+1),h,lS⟩)
 cases h;exact cE (aH hC (wL hC [.rn 22 0 [] [20,21]] zw))
theorem sV{v}{r}(h:qA n v=some r):VQ G 166 [] [vI v] (V.agg [ms 0 1 1 rI r.coefs,vI r.const]) [ar 3 1 1 rI r.coefs]:=by refine vq aL Tryz.func166 rfl fun w X β0 hC hg=>eQ hC [.z (.nat 20)] ?_;obtain⟨x1,hx1,h⟩:=bd h;refine eQ hC [oC [] [21] (mI G n hx1),.z (.nat 22)] ?_;obtain⟨x2,hx2,x3,hx3,h⟩:=cM h;cases h;exact eQ hC [oQ (fB rI hx2),oX rI hx2,.z (.rows (x3.map rI)),.z (.lenc 22 0 (x3.map rI).length),oQ (str rI hx3),oQ (eS rI hx3)] (aH hC (wL hC [.rn 21 0 [] [20,22]] zw))
theorem aHQ{r_a0}{depth}{r}(h:D2 n r_a0 depth=some r):VQ G 312 [uU r_a0] [V.ref 0 0,vI depth] (V.agg (nM r.1)) [uU r.2]:=by
 refine vq aL Tryz.func312 rfl fun w X β0 hC hg=>eQ hC [.z (.nat 20)] ?_;obtain⟨x1,hx1,x2,hx2,h⟩:=cM h;refine eQ hC [.z (.int 0),oC [0] [] (aZ G hx1),oC [] [21] (dR G hx2),.z (.nat 22)] ?_;obtain⟨x3,hx3,x4,hx4,h⟩:=cM h;refine eQ hC [.z (.int 0),oC [0] [] (aZ G hx3),oC [] [23] (dR G hx4),.z (.nat 24)] (vj h (fun x_=>bU [(0,V.ref 0 0),(4,V.ref 20 0),(5,V.ref 22 0),(6,V.ref 24 0)] [(0,E.cells [vM rY x_.1,vI x_.2.1]),(20,E.cells [cD,cD]),(22,E.cells [vM rI x_.2.2.1,vI x_.2.2.2.1]),(24,E.cells [vM rI x_.2.2.2.2.1,vI x_.2.2.2.2.2])] [0,20,21,22,23,24]) (fun j5 h=>?_) ?_)
 ·refine vj h (fun x_=>bU [(0,V.ref 0 0),(1,vI depth),(4,V.ref 20 0),(5,V.ref 22 0),(6,V.ref 24 0),(23,vB x_.2.2)] [(0,E.cells [vM rY x_.1,vI x_.2.1]),(20,E.cells [cD,cD]),(21,ar 3 1 1 rI x2.coefs),(22,E.cells [ms 21 1 1 rI x2.coefs,vI x2.const]),(23,ar 3 1 1 rI x4.coefs),(24,E.cells [ms 23 1 1 rI x4.coefs,vI x4.const])] [0,20,21,22,23,24]) (fun j6 h=>?_) ?_
  ·refine aQ h (fun c1 h=>eK hC (rF 4 c1) (lE h)) fun c1 h=>?_;obtain⟨x7,hx7,h⟩:=bd h;exact eK hC [oT c1,oT c1,oC [0] [] (bM G hx7),oT c1,oT c1] (lE h)
  rintro⟨x8,x9,x10⟩ h;refine aS h (fun c2 h=>?_) fun c2 h=>qk ⟨(x8,x9,x2.coefs,x2.const,x4.coefs,x4.const),h,((eL hC [.fz 21 [] [22],.fz 23 [] [24]]).trans (lS))⟩;obtain⟨x11,hx11,h⟩:=bd h;refine eQ hC [oC [0] [] (bM G hx11)] ?_;obtain⟨x12,hx12,h⟩:=bd h;refine eQ hC [oC [0] [] (bM G hx12)] (aS h (fun c3 h=>?_) fun c3 h=>?_)
  ·obtain⟨x13,hx13,h⟩:=bd h;exact eK hC [oC [] [25] (sV G hx13)] ⟨(x12.2.b,x12.2.p,x13.coefs,x13.const,x4.coefs,x4.const),h,((eL hC [.fz 23 [] [24],.fz 25 [] [22]]).trans (lS))⟩
  obtain⟨x14,hx14,x15,hx15,x16,hx16,h⟩:=iL h;exact eK hC [oC [] [25] (sV G hx14),oC [] [26] (dR G hx15),.z (.at 2),.z (.fz 25 [33] []),.z (.at 2),.z (.fz 26 [34] []),oC [] [27] (rG G hx16)] ⟨(x12.2.b,x12.2.p,x2.coefs,x2.const,x16.coefs,x16.const),h,((eL hC [.fz 21 [] [22],.fz 27 [] [24]]).trans (lS))⟩
 rintro⟨x17,x18,x19,x20,x21,x22⟩ h;refine eQ hC [.z (.int 1),.z (.nat 25),.z (.int 1),.z (.nat 26),.z (.nat 27)] ?_;obtain⟨j23,hj23,h⟩:=xU h;refine iN (γ:=Nat×Nat) (j:=j23) (r:=r) (fun x_ g_=>bU [(4,V.ref 20 0),(8,V.ref 27 0)] [(0,E.cells [vM rY x_.1,vI x_.2.1]),(20,E.cells [cD,cD]),(22,E.cells [vM rI x19,vI x20]),(24,E.cells [vM rI x21,vI x22]),(25,ar 70 g_.1 2 aB x_.2.2.1),(26,ar 70 g_.2 2 aB x_.2.2.2),(27,E.cells [ms 25 g_.1 2 aB x_.2.2.1,ms 26 g_.2 2 aB x_.2.2.2])] [0,20,21,22,23,24,25,26,27]) ?_ ?_
 ·obtain⟨x24,hx24,h⟩:=bd h;refine eQ hC [oC [0] [] (bM G hx24)] (qb (aH hC (aS h (fun c4 h=>?_) fun c4 h=>?_)))
  ·obtain⟨x25,hx25,x26,hx26,x27,hx27,h⟩:=iL h;exact eD hC aV [.z (.int 0),oC [0] [] (aZ G hx25),oC [] [28] (dR G hx26),.z (.at 4),.z (.fz 28 [50] []),.z (.int 0),oA (aM aB hx27),oM 2 aU [(⟨x21,x22⟩:Affine)],oM 2 aU [x26]] ⟨(x25.2.b,x25.2.p,[(⟨x19,x20⟩:Affine)],x27),(1,2),h,lS⟩
  refine aH hC (aS h (fun c5 h=>?_) fun c5 h=>qk ⟨(x24.2.b,x24.2.p,[(⟨x19,x20⟩:Affine)],[(⟨x21,x22⟩:Affine)]),(1,1),h,lS⟩);obtain⟨x28,hx28,x29,hx29,x30,hx30,h⟩:=iL h;exact eD hC aV [.z (.int 0),oC [0] [] (aZ G hx28),oC [] [28] (dR G hx29),.z (.at 4),.z (.fz 28 [61] []),.z (.int 0),oA (aM aB hx30),oM 2 aU [(⟨x19,x20⟩:Affine)],oM 2 aU [x29]] ⟨(x28.2.b,x28.2.p,x30,[(⟨x21,x22⟩:Affine)]),(2,1),h,lS⟩
 rintro⟨x31,x32,x33,x34⟩ ⟨g35,g36⟩ h;subst hj23;cases h;exact eQ hC [.z (.at 2),.z (.fz 25 [] [27]),.z (.at 2),.z (.fz 26 [] [27])] zw
theorem aHP{r_a0}{r}(h:D1 n r_a0=some r):VQ G 280 [uU r_a0] [V.ref 0 0] (ms 1 1 2 aC r.1) [uU r.2,ar 64 1 2 aC r.1]:=by
 refine vq aL Tryz.func280 rfl fun w X β0 hC hg=>aH hC (eQ hC [.z (.nat 20)] (qs ?_));obtain⟨x1,hx1,h⟩:=bd h;refine eQ hC [.z (.int 0),oC [0] [] (aZ G hx1)] (qb (iO h (fun x_ g_=>bU [(0,V.ref 0 0),(3,ms 20 g_ 2 aC x_.2.2.1),(4,vI x_.2.2.2)] [(0,E.cells [vM rY x_.1,vI x_.2.1]),(20,ar 64 g_ 2 aC x_.2.2.1)] [0,20]) 1 (lS) ?_));rintro again7 ⟨x2,x3,x4,x5⟩ g6 h;refine qs (aH hC (aS h (fun c1 h=>?_) fun c1 h=>?_))
 ·refine qk (cU ?_);obtain⟨x8,hx8,x9,hx9,h⟩:=cM h;exact eK hC [oN aC x4,oC [0] [] (aHQ G hx8),.z (.int 0),oA (aM aC hx9),oM 2 cH x4,oM 2 cH [x8.1]] (bX hC ⟨(x8.2.b,x8.2.p,x9,wr (x5-1)),(g6+1),h,lS⟩)
 cases h;exact cE (aH hC (wL hC [.ren 2 20 1] zw))
theorem aHU{r_a0}{depth}{r}(h:vE n r_a0 depth=some r):VQ G 336 [uU r_a0] [V.ref 0 0,vI depth] (V.agg (aO r.1)) [uU r.2]:=by
 refine vq aL Tryz.func336 rfl fun w X β0 hC hg=>eQ hC [.z (.nat 20)] ?_;obtain⟨x1,hx1,x2,hx2,h⟩:=cM h;refine eQ hC [.z (.int 0),oC [0] [] (aZ G hx1),oC [] [21] (dR G hx2),.z (.nat 22)] (qs (aH hC (qb (iO h (fun x_ g_=>bU [(0,V.ref 0 0),(1,vI depth),(4,V.ref 20 0),(5,V.ref 22 0),(6,vI x_.2.2.2)] [(0,E.cells [vM rY x_.1,vI x_.2.1]),(20,E.cells [cD,vI 0]),(21,ar 3 g_ 1 rI x_.2.2.1),(22,E.cells [ms 21 g_ 1 rI x_.2.2.1,vI x2.const])] [0,20,21,22]) 1 (lS) ?_))));rintro again8 ⟨x3,x4,x5,x6⟩ g7 h;refine qs (aH hC (aS h (fun c1 h=>?_) fun c1 h=>?_))
 ·refine qk (cU ?_);obtain⟨x9,hx9,x10,hx10,x11,hx11,h⟩:=iL h;exact eD hC aV [.z (.int 0),oC [0] [] (aZ G hx9),oQ (fB rI hx10),oX rI hx10,.z (.rows (x11.map rI)),oQ (str rI hx11)] (wP hC [.lenc 22 0 (x11.map rI).length] (a1 (eS rI hx11)) (bX hC ⟨(x9.2.b,x9.2.p,x11,wr (x6+1)),g7,h,lS⟩))
 cases h;exact cE (eQ hC [.z (.at 2),.z (.fz 21 [] [22])] zw)
theorem oE{r_a0}{list}{r}(h:iS n r_a0 list=some r):VQ G 130 [uU r_a0] [V.ref 0 0,vM rS list] (vS r.1) [uU r.2]:=by refine vq aL Tryz.func130 rfl fun w X β0 hC hg=>aH hC ?_;obtain⟨x1,hx1,x2,hx2,h⟩:=cM h;cases h;exact eQ hC [oN rS list,oC [0] [] (bM G hx1),oR rS hx2] zw
theorem aBe{r_a0}{depth}{r}(h:sD n r_a0 depth=some r):VQ G 313 [uU r_a0] [V.ref 0 0,vI depth] (V.agg (cY r.1)) [uU r.2]:=by
 refine vq aL Tryz.func313 rfl fun w X β0 hC hg=>eQ hC [.z (.nat 20)] ?_;obtain⟨x1,hx1,h⟩:=bd h;refine eQ hC [.z (.int 0),oC [0] [] (oE G hx1),.z (.nat 21)] (aH hC (vj h (fun x_=>bU [(0,V.ref 0 0),(1,vI depth),(4,V.ref 20 0),(5,V.ref 21 0),(6,vI x_)] [(0,uU x1.2),(20,E.cells [vS [],cD]),(21,E.cells [vS x1.1,cD])] [0,20,21]) (fun j2 h=>aH hC (aS h (fun c1 h=>bX hC (lE h)) fun c1 h=>qk (lE h))) fun x3 h=>?_));refine qs (aH hC (qb (wL hC [.growc 21 1 22 70] (iO h (fun x_ g_=>bU [(0,V.ref 0 0),(1,vI depth),(4,V.ref 20 0),(5,V.ref 21 0),(6,vI x3),(7,vI x_.2.2.2)] [(0,E.cells [vM rY x_.1,vI x_.2.1]),(20,E.cells [vS [],cD]),(21,E.cells [vS x1.1,ms 22 g_ 2 aB x_.2.2.1]),(22,ar 70 g_ 2 aB x_.2.2.1)] [0,20,21,22]) 1 (lS) ?_))));rintro again9 ⟨x4,x5,x6,x7⟩ g8 h;refine qs (aH hC (aS h (fun c2 h=>?_) fun c2 h=>?_))
 ·refine qk (cU ?_);obtain⟨x10,hx10,x11,hx11,h⟩:=cM h;refine eQ hC [.z (.int 0),oC [0] [] (aZ G hx10),oC [] [23] (dR G hx11),.z (.nat 24)] (vj h (fun x_=>bU [(0,V.ref 0 0),(1,vI depth),(4,V.ref 20 0),(5,V.ref 21 0),(6,vI x3),(7,vI x7),(8,V.ref 24 0)] [(0,E.cells [vM rY x_.1,vI x_.2.1]),(20,E.cells [vS [],cD]),(21,E.cells [vS x1.1,ms 22 g8 2 aB x6]),(22,ar 70 g8 2 aB x6),(24,E.cells [vM rI x_.2.2.1,vI x_.2.2.2])] [0,20,21,22,23,24]) (fun j12 h=>?_) ?_)
  ·refine vj h (fun x_=>bU [(0,V.ref 0 0),(1,vI depth),(4,V.ref 20 0),(5,V.ref 21 0),(6,vI x3),(7,vI x7),(8,V.ref 24 0),(32,vB x_.2.2)] [(0,E.cells [vM rY x_.1,vI x_.2.1]),(20,E.cells [vS [],cD]),(21,E.cells [vS x1.1,ms 22 g8 2 aB x6]),(22,ar 70 g8 2 aB x6),(23,ar 3 1 1 rI x11.coefs),(24,E.cells [ms 23 1 1 rI x11.coefs,vI x11.const])] [0,20,21,22,23,24]) (fun j13 h=>?_) ?_
   ·refine aQ h (fun c3 h=>eK hC (rF 4 c3) (lE h)) fun c3 h=>?_;obtain⟨x14,hx14,h⟩:=bd h;exact eK hC [oT c3,oT c3,oC [0] [] (bM G hx14),oT c3,oT c3] (lE h)
   rintro⟨x15,x16,x17⟩ h;refine aS h (fun c4 h=>?_) fun c4 h=>qk ⟨(x15,x16,x11.coefs,x11.const),h,((eL hC [.fz 23 [] [24]]).trans (lS))⟩;obtain⟨x18,hx18,h⟩:=bd h;refine eQ hC [oC [0] [] (bM G hx18)] ?_;obtain⟨x19,hx19,x20,hx20,x21,hx21,h⟩:=iL h;obtain⟨x22,hx22,x23,hx23,h⟩:=cM h;exact eK hC [oC [] [25] (sV G hx19),.z (.int 0),oC [0] [] (aZ G hx20),.z (.int 0),oC [0] [] (aZ G hx21),oC [] [26] (dR G hx22),.z (.at 2),.z (.fz 25 [37] []),.z (.at 2),.z (.fz 26 [44] []),oC [] [27] (rG G hx23)] ⟨(x21.2.b,x21.2.p,x23.coefs,x23.const),h,((eL hC [.fz 27 [] [24]]).trans (lS))⟩
  rintro⟨x24,x25,x26,x27⟩ h;obtain⟨x28,hx28,h⟩:=bd h;exact eK hC [.z (.int 0),oA (aM aB hx28),oM 2 aU x6,oM 2 aU [(⟨x26,x27⟩:Affine)]] (bX hC ⟨(x24,x25,x28,wr (x7+1)),(g8+1),h,lS⟩)
 cases h;exact cE (eQ hC [.z (.at 2),.z (.fz 22 [] [21])] zw)
end Go.Lift
