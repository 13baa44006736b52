/- The walks: the code computes what the plain functions say. -/
import Derived.Test.YtcihigfifglboaaGreatUWalks4
import Derived.Test.YtcihigfifglboaaGreatULiftMk
set_option maxRecDepth 10000
set_option linter.unusedVariables false
namespace Go.Lift
open Go Go.Proofs
variable (G:GS) {n:Nat}
theorem zX{a}(aG:Nat){k}{r}(h:kV n a k=some r):VQ G 15 [ar 59 aG 4 aJ a] [ms 0 aG 4 aJ a,vI k] (vI r.1) [ar 59 aG 4 aJ r.2]:=by
 refine vq aU Tryz.func15 rfl fun w X β0 hC hg=>bB hC [4] (qs (aE hC [5] [(5,vI 0)] (qb (gK h (fun x_=>fY [(0,ms 0 aG 4 aJ x_.1),(1,vI x_.2.1),(5,vI x_.2.2)] [(0,ar 59 aG 4 aJ x_.1)] [0]) lS ?_))));rintro again5 ⟨x1,x2,x3⟩ h;refine qs (aV hC [oN aJ x1] (fr 6 4) [(9,vK x3 x1)] (aY h (fun c1 h=>?_) fun c1 h=>?_))
 ·refine qk (dU ?_);obtain⟨x6,hx6,x7,hx7,h⟩:=iT h;refine rq hC [oQ (mH aJ hx6),oX aJ hx6,.z (.rows (x7.map aJ)),.z (.len 0 (x7.map aJ).length),oQ (str aJ hx7),oQ (nM aJ hx7)] [0,12,13,14,15,16] [(0,ms 0 aG 4 aJ x7)] [(0,some (ar 59 aG 4 aJ x7))] [] (aE hC [1,17,18] [(1,vI (wr (x2+1)))] ?_);obtain⟨x8,hx8,x9,hx9,h⟩:=iT h;refine rq hC [oQ (mH aJ hx8),oX aJ hx8,.z (.rows (x9.map aJ)),.z (.len 0 (x9.map aJ).length),oQ (str aJ hx9),oQ (nM aJ hx9)] [0,19,20,21,22,23] [(0,ms 0 aG 4 aJ x9)] [(0,some (ar 59 aG 4 aJ x9))] [] (aE hC [1,24,25] [(1,vI (wr ((wr (x2+1))+1)))] ?_);obtain⟨x10,hx10,x11,hx11,h⟩:=iT h;refine rq hC [oQ (mH aJ hx10),oX aJ hx10,.z (.rows (x11.map aJ)),.z (.len 0 (x11.map aJ).length),oQ (str aJ hx11),oQ (nM aJ hx11)] [0,26,27,28,29,30] [(0,ms 0 aG 4 aJ x11)] [(0,some (ar 59 aG 4 aJ x11))] [] (aE hC [1,31,32] [(1,vI (wr ((wr ((wr (x2+1))+1))+1)))] ?_);obtain⟨x12,hx12,x13,hx13,h⟩:=iT h;exact rq hC [oQ (mH aJ hx12),oX aJ hx12,.z (.rows (x13.map aJ)),.z (.len 0 (x13.map aJ).length),oQ (str aJ hx13),oQ (nM aJ hx13)] [0,33,34,35,36,37] [(0,ms 0 aG 4 aJ x13)] [(0,some (ar 59 aG 4 aJ x13))] [] (bA hC [1,38,39] [(1,vI (wr ((wr ((wr ((wr (x2+1))+1))+1))+1)))] (bA hC [5,10,11] [(5,vI (wr (x3+1)))] (lE h)))
 cases h;exact dN (aE hC [4,40] [(4,vI x2)] zw)
theorem iO{p}{r}(h:cQ n p=some r):VQ G 11 [E.tree aX 1 1 (p.arrays.map aQ) [],E.tree aX 6 1 (p.parts.map aK) []] [V.agg [ms 0 1 2 aQ p.arrays,ms 1 1 2 aK p.parts]] (ms 2 1 4 aJ r) [E.tree aX 1 1 (p.arrays.map aQ) [],E.tree aX 6 1 (p.parts.map aK) [],ar 59 1 4 aJ r]:=
 aBk (qN G h) ⟨Bor.mk ⟨.tree 0 aX 1 1 2 _ _ rfl rfl rfl,.tree 1 aX 6 1 2 _ _ rfl rfl rfl,trivial⟩,trivial⟩ rfl fun e he=>by obtain rfl:=vBo.1 he;exact E1 (fun x y hy=>by simp at hy;rcases hy with rfl|rfl|rfl|rfl<;>rfl) _
theorem oK{p}{r}(h:dS n p=some r):VQ G 9 [E.tree aX 1 1 (p.arrays.map aQ) [],E.tree aX 6 1 (p.parts.map aK) []] [V.agg [ms 0 1 2 aQ p.arrays,ms 1 1 2 aK p.parts]] (ms 2 1 4 aJ r) [E.tree aX 1 1 (p.arrays.map aQ) [],E.tree aX 6 1 (p.parts.map aK) [],ar 59 1 4 aJ r]:=
 aBk (qL G h) ⟨Bor.mk ⟨.tree 0 aX 1 1 2 _ _ rfl rfl rfl,.tree 1 aX 6 1 2 _ _ rfl rfl rfl,trivial⟩,trivial⟩ rfl fun e he=>by obtain rfl:=vBo.1 he;exact E1 (fun x y hy=>by simp at hy;rcases hy with rfl|rfl|rfl|rfl<;>rfl) _
theorem kT{aP}{r}(h:dR n aP=some r):PQ G 3 [V.agg (nJ aP)] (vB r):=by
 refine pq aU Tryz.func3 rfl fun w X hC=>aV hC [.z (.b (true))] [1,2] [(1,V.tp (cT aP))] (aE hC [3] [(3,vI 1048576)] ?_);obtain⟨x1,hx1,h⟩:=bd h;refine aV hC [oV (zW G hx1)] [3,11,12,13] [(3,vI x1)] (qs (aE hC [14,15] [(15,vD (x1<0))] (aY h (fun c1 h=>?_) fun c1 h=>?_)))
 ·cases h;exact aE hC [2] [(2,vB true)] zr
 refine qk ?_;obtain⟨x2,hx2,x3,hx3,h⟩:=iT h;refine rq hC [oC [] [20,21] (fO G hx2),oC [20,21] [22] (oK G hx3)] [4,16,17,18] [(4,ms 22 1 4 aJ x3)] [(20,some (E.tree aX 1 1 (x2.arrays.map aQ) [])),(21,some (E.tree aX 6 1 (x2.parts.map aK) [])),(22,some (ar 59 1 4 aJ x3))] [(20,true),(21,true),(20,true),(21,true),(22,true)] ?_;obtain⟨x4,hx4,h⟩:=bd h;refine rq hC [oC [] [23,24] (fO G hx4),.z (.nat 25)] [5,19,20] [(5,V.ref 25 0)] [(23,some (E.tree aX 1 1 (x4.arrays.map aQ) [])),(24,some (E.tree aX 6 1 (x4.parts.map aK) [])),(25,sc [ms 23 1 2 aQ x4.arrays,ms 24 1 2 aK x4.parts])] [(23,true),(24,true),(25,true)] ?_;obtain⟨x5,hx5,h⟩:=bd h;refine rq hC [oC [23,24] [26] (iO G hx5)] [6,21,22] [(6,ms 26 1 4 aJ x5)] [(26,some (ar 59 1 4 aJ x5)),(23,some (E.tree aX 1 1 (x4.arrays.map aQ) [])),(24,some (E.tree aX 6 1 (x4.parts.map aK) []))] [(23,true),(24,true),(26,true)] (qs ?_);obtain⟨x6,hx6,h⟩:=bd h;refine aV hC [.z (.b (true)),oV (oH G hx6)] (fr 23 4) [(26,vB (!x6))] (aY h (fun c2 h=>?_) fun c2 h=>?_)
 ·cases h;exact aE hC [2] [(2,vB false)] zr
 refine qk (qs (qs ?_));obtain⟨x7,hx7,x8,hx8,h⟩:=iT h;refine dk hC dV [oC [] [27,28] (fO G hx7),.z (.b (true)),.z (.nat 23),.z (.nat 24),.z (.nat 27),.z (.nat 28),oV (zY G hx8)] (fr 27 5) [(31,vB (!x8))] [(27,some (E.tree aX 1 1 (x7.arrays.map aQ) [])),(28,some (E.tree aX 6 1 (x7.parts.map aK) []))] [(27,true),(28,true)] (aY h (fun c3 h=>?_) fun c3 h=>?_)
 ·cases h;exact aE hC [2] [(2,vB false)] zr
 refine qk (aE hC [7] [(7,vI 1)] ?_);obtain⟨x9,hx9,h⟩:=bd h;refine rq hC [oC [23,24] [] (vX G hx9)] [7,32,33,34] [(7,vI x9.1)] [(23,some (E.tree aX 1 1 (x9.2.1.map aQ) [])),(24,some (E.tree aX 6 1 (x9.2.2.map aK) []))] [(23,true),(24,true)] (qs (vj h (fun x_=>fY [(1,V.tp (cT aP)),(4,ms 22 1 4 aJ x3),(6,ms 26 1 4 aJ x5),(42,vB x_)] [(20,E.tree aX 1 1 (x2.arrays.map aQ) []),(21,E.tree aX 6 1 (x2.parts.map aK) []),(22,ar 59 1 4 aJ x3),(26,ar 59 1 4 aJ x5),(27,E.tree aX 1 1 (x7.arrays.map aQ) []),(28,E.tree aX 6 1 (x7.parts.map aK) [])] [20,21,22,23,24,25,26,27,28]) (fun j10 h=>?_) fun x12 h=>?_))
 ·refine bC h (fun c4 h=>?_) fun c4 h=>bR hC (rT 5 c4) (fr 35 8) [(42,vB true)] (lE h);obtain⟨x11,hx11,h⟩:=bd h;exact bR hC (rF 3 c4++[.z (.b (true)),oV (oH G hx11),oF c4,oF c4]) (fr 35 8) [(42,vB (!x11))] (lE h)
 refine aY h (fun c5 h=>?_) fun c5 h=>?_
 ·cases h;exact aE hC [2] [(2,vB false)] zr
 refine qk (aE hC [8] [(8,vI 1)] ?_);obtain⟨x13,hx13,x14,hx14,h⟩:=iT h;refine rq hC [oC [26] [] (zX G 1 hx13),.z (.len 6 (x13.2.map aJ).length),oQ (aGy aJ hx14)] [6,8,43,44,45] [(6,ms 26 1 4 aJ x13.2),(8,vI x13.1)] [(26,some (ar 59 1 4 aJ x13.2))] [(26,true)] (aE hC [9] [(9,vI 1)] ?_);obtain⟨x15,hx15,h⟩:=bd h;refine aV hC [.z (.b (true)),oV (pR G hx15)] [9,46,47,48] [(9,vI x15)] (qs (aE hC [49,50] [(50,vD (x15<0))] (aY h (fun c6 h=>?_) fun c6 h=>?_)))
 ·cases h;exact aE hC [2] [(2,vB false)] zr
 refine qk (qs (aE hC [51,52,53] [(53,vB (!decide (x15=x13.1)))] (aY h (fun c7 h=>?_) fun c7 h=>?_)))
 ·cases h;exact aE hC [2] [(2,vB false)] zr
 refine qk ?_;obtain⟨x16,hx16,x17,hx17,h⟩:=iT h;refine rq hC [oC [] [29,30] (fO G hx16),oC [29,30] [31] (iO G hx17)] [10,54,55,56] [(10,ms 31 1 4 aJ x17)] [(29,some (E.tree aX 1 1 (x16.arrays.map aQ) [])),(30,some (E.tree aX 6 1 (x16.parts.map aK) [])),(31,some (ar 59 1 4 aJ x17))] [(29,true),(30,true),(29,true),(30,true),(31,true)] (qs ?_);obtain⟨x18,hx18,h⟩:=bd h;refine aV hC [.z (.b (true)),oV (oH G hx18)] (fr 57 4) [(60,vB (!x18))] (aY h (fun c8 h=>?_) fun c8 h=>?_)
 ·cases h;exact aE hC [2] [(2,vB false)] zr
 refine qk (aE hC [9] [(9,vI 1)] ?_);obtain⟨x19,hx19,h⟩:=bd h;refine aV hC [.z (.b (true)),oV (pR G hx19)] [9,61,62,63] [(9,vI x19)] (qs (aE hC [64,65] [(65,vD (x19<0))] (aY h (fun c9 h=>?_) fun c9 h=>?_)))
 ·cases h;exact aE hC [2] [(2,vB false)] zr
 refine qk (qs (aE hC [66,67,68] [(68,vB (!decide (x19=x13.1)))] (aY h (fun c10 h=>?_) fun c10 h=>?_)))
 ·cases h;exact aE hC [2] [(2,vB false)] zr
 cases h;exact qk (aE hC [2] [(2,vB true)] zr)
end Go.Lift
