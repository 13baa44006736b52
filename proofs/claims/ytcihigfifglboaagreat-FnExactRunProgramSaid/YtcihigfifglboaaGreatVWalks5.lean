/- The walks: the code computes what the plain functions say. -/
import Derived.Test.YtcihigfifglboaaGreatVWalks4
import Derived.Test.YtcihigfifglboaaGreatVLiftMk
set_option maxRecDepth 10000
set_option linter.unusedVariables false
namespace Go.Lift
open Go Go.Proofs
variable (G:GS) {n:Nat}
theorem m0{p}{m}{r}(h:eY n p m=some r):VQ G 19 [E.tree aW 1 1 (p.arrays.map aN) [],E.tree aW 6 1 (p.parts.map aJ) [],ar 3 1 1 rI m] [V.agg [ms 0 1 2 aN p.arrays,ms 1 1 2 aJ p.parts],ms 2 1 1 rI m] (V.tup [ms 3 1 1 rI r.1,vB r.2]) [E.tree aW 1 1 (p.arrays.map aN) [],E.tree aW 6 1 (p.parts.map aJ) [],ar 3 1 1 rI m,ar 3 1 1 rI r.1]:=
 aB2 (A9 G h) ⟨Bor.mk ⟨.tree 0 aW 1 1 2 _ _ rfl rfl rfl,.tree 1 aW 6 1 2 _ _ rfl rfl rfl,trivial⟩,.arr 2 3 1 1 _ _ rfl rfl,trivial⟩ rfl fun e he=>by obtain rfl:=vBp.1 he;exact I4 (fun x y hy=>by simp at hy;subst hy;rfl) _
theorem vQ{p}{m}{r}(h:gD n p m=some r):VQ G 17 [E.tree aW 1 1 (p.arrays.map aN) [],E.tree aW 6 1 (p.parts.map aJ) [],ar 3 1 1 rI m] [V.agg [ms 0 1 2 aN p.arrays,ms 1 1 2 aJ p.parts],ms 2 1 1 rI m] (V.tup [ms 3 1 1 rI r.1,vB r.2]) [E.tree aW 1 1 (p.arrays.map aN) [],E.tree aW 6 1 (p.parts.map aJ) [],ar 3 1 1 rI m,ar 3 1 1 rI r.1]:=
 aB2 (A5 G h) ⟨Bor.mk ⟨.tree 0 aW 1 1 2 _ _ rfl rfl rfl,.tree 1 aW 6 1 2 _ _ rfl rfl rfl,trivial⟩,.arr 2 3 1 1 _ _ rfl rfl,trivial⟩ rfl fun e he=>by obtain rfl:=vBp.1 he;exact I4 (fun x y hy=>by simp at hy;subst hy;rfl) _
theorem oB{aP}{aM}{r}(h:fJ n aP aM=some r):PQ G 4 [V.agg (fI aP),vM rI aM] (vB r):=by
 refine pq aR Tryz.func4 rfl fun w X hC=>aU hC [.z (.b (true))] [2,4] [(2,V.tp (bU aP))] (qs (aU hC [oN rI aM] [17,18,19] [(19,vD ((1048576:Int)<(aM.length:Int)))] (aX h (fun c1 h=>?_) fun c1 h=>?_)))
 ·cases h;exact aE hC [4] [(4,vB true)] zr
 refine qk (aE hC [5] [(5,vI 1048576)] ?_);obtain⟨x1,hx1,h⟩:=bd h;refine aU hC [oV (D9 G hx1)] [5,20,21,22] [(5,vI x1)] (qs (aE hC [23,24] [(24,vD (x1<0))] (aX h (fun c2 h=>?_) fun c2 h=>?_)))
 ·cases h;exact aE hC [4] [(4,vB true)] zr
 refine qk ?_;obtain⟨x2,hx2,x3,hx3,x4,hx4,h⟩:=w5 h;refine rq hC [oC [] [20,21] (fS G hx2),oC [] [22] (iB G hx3),oC [20,21,22] [23] (vQ G hx4)] [6,7,25,26,27,28,29,30,31,32] [(6,ms 23 1 1 rI x4.1),(7,vB x4.2)] [(20,some (E.tree aW 1 1 (x2.arrays.map aN) [])),(21,some (E.tree aW 6 1 (x2.parts.map aJ) [])),(22,some (ar 3 1 1 rI x3)),(23,some (ar 3 1 1 rI x4.1))] [(20,true),(21,true),(22,true),(20,true),(21,true),(22,true),(23,true)] ?_;obtain⟨x5,hx5,h⟩:=bd h;refine rq hC [oC [] [24,25] (fS G hx5),.z (.nat 26)] [8,33,34] [(8,V.ref 26 0)] [(24,some (E.tree aW 1 1 (x5.arrays.map aN) [])),(25,some (E.tree aW 6 1 (x5.parts.map aJ) [])),(26,sc [ms 24 1 2 aN x5.arrays,ms 25 1 2 aJ x5.parts])] [(24,true),(25,true),(26,true)] ?_;obtain⟨x6,hx6,h⟩:=bd h;refine rq hC [oC [] [27] (iB G hx6)] [9,35,36] [(9,ms 27 1 1 rI x6)] [(27,some (ar 3 1 1 rI x6))] [(27,true)] ?_;obtain⟨x7,hx7,h⟩:=bd h;refine rq hC [oC [24,25,27] [28] (m0 G hx7)] [10,11,37,38,39,40,41,42] [(10,ms 28 1 1 rI x7.1),(11,vB x7.2)] [(28,some (ar 3 1 1 rI x7.1)),(24,some (E.tree aW 1 1 (x5.arrays.map aN) [])),(25,some (E.tree aW 6 1 (x5.parts.map aJ) [])),(27,some (ar 3 1 1 rI x6))] [(24,true),(25,true),(27,true),(28,true)] (qs (vj h (fun x_=>gP [(1,vM rI aM),(2,V.tp (bU aP)),(6,ms 23 1 1 rI x4.1),(7,vB x4.2),(8,V.ref 26 0),(9,ms 27 1 1 rI x6),(10,ms 28 1 1 rI x7.1),(11,vB x7.2),(51,vB x_)] [(20,E.tree aW 1 1 (x2.arrays.map aN) []),(21,E.tree aW 6 1 (x2.parts.map aJ) []),(22,ar 3 1 1 rI x3),(23,ar 3 1 1 rI x4.1),(24,E.tree aW 1 1 (x5.arrays.map aN) []),(25,E.tree aW 6 1 (x5.parts.map aJ) []),(26,E.cells [ms 24 1 2 aN x5.arrays,ms 25 1 2 aJ x5.parts]),(27,ar 3 1 1 rI x6),(28,ar 3 1 1 rI x7.1)] [20,21,22,23,24,25,26,27,28]) (fun j8 h=>?_) fun x10 h=>?_))
 ·obtain⟨x9,hx9,h⟩:=bd h;exact aZ h (fun c3 h=>bM hC ([.z (.b (true)),oV (dW G hx9)]++rF 4 c3) (fr 43 9) [(51,vB (!(x7.2==x4.2)))] (lE h)) fun c3 h=>bM hC ([.z (.b (true)),oV (dW G hx9)]++rT 4 c3) (fr 43 9) [(51,vB true)] (lE h)
 refine aX h (fun c4 h=>?_) fun c4 h=>?_
 ·cases h;exact aE hC [4] [(4,vB false)] zr
 refine qk (qs (qs ?_));obtain⟨x11,hx11,x12,hx12,h⟩:=gQ h;refine dk hC cZ [oC [] [29,30] (fS G hx11),.z (.b (true)),.z (.nat 24),.z (.nat 25),.z (.nat 29),.z (.nat 30),oV (E0 G hx12)] (fr 52 5) [(56,vB (!x12))] [(29,some (E.tree aW 1 1 (x11.arrays.map aN) [])),(30,some (E.tree aW 6 1 (x11.parts.map aJ) []))] [(29,true),(30,true)] (aX h (fun c5 h=>?_) fun c5 h=>?_)
 ·cases h;exact aE hC [4] [(4,vB false)] zr
 refine qk (qs ?_);obtain⟨x13,hx13,x14,hx14,h⟩:=gQ h;refine rq hC [oC [] [31] (iB G hx13),.z (.b (true)),oV (dW G hx14)] (fr 57 5) [(61,vB (!x14))] [(31,some (ar 3 1 1 rI x13))] [(31,true)] (aX h (fun c6 h=>?_) fun c6 h=>?_)
 ·cases h;exact aE hC [4] [(4,vB false)] zr
 refine qk (aE hC [12] [(12,vI 1)] ?_);obtain⟨x15,hx15,h⟩:=bd h;refine rq hC [oC [24,25] [] (wY G hx15)] [12,62,63,64] [(12,vI x15.1)] [(24,some (E.tree aW 1 1 (x15.2.1.map aN) [])),(25,some (E.tree aW 6 1 (x15.2.2.map aJ) []))] [(24,true),(25,true)] ?_;obtain⟨x16,hx16,x17,hx17,h⟩:=gQ h;refine rq hC [oC [27] [] (e9 G hx16)] [9,12,65,66,67] [(12,vI x16.1)] [(27,some (ar 3 1 1 rI x16.2))] [(27,true)] (qs (vj h (fun x_=>gP [(1,vM rI aM),(2,V.tp (bU aP)),(6,ms 23 1 1 rI x4.1),(7,vB x4.2),(10,ms 28 1 1 rI x7.1),(80,vB x_)] [(20,E.tree aW 1 1 (x2.arrays.map aN) []),(21,E.tree aW 6 1 (x2.parts.map aJ) []),(22,ar 3 1 1 rI x3),(23,ar 3 1 1 rI x4.1),(27,ar 3 1 1 rI x16.2),(28,ar 3 1 1 rI x7.1),(29,E.tree aW 1 1 (x11.arrays.map aN) []),(30,E.tree aW 6 1 (x11.parts.map aJ) []),(31,ar 3 1 1 rI x13)] [20,21,22,23,24,25,26,27,28,29,30,31]) (fun j18 h=>?_) fun x20 h=>?_))
 ·refine aZ h (fun c7 h=>?_) fun c7 h=>bM hC (rT 5 c7++sT 4) (fr 68 13) [(80,vB true)] (lE h);obtain⟨x19,hx19,h⟩:=bd h;exact aZ h (fun c8 h=>bM hC (rF 3 c7++[.z (.b (true)),oV (dW G hx19),oF c7,oF c7]++rF 4 c8) (fr 68 13) [(80,vB (!(x7.2==x4.2)))] (lE h)) fun c8 h=>bM hC (rF 3 c7++[.z (.b (true)),oV (dW G hx19),oF c7,oF c7]++rT 4 c8) (fr 68 13) [(80,vB true)] (lE h)
 refine aX h (fun c9 h=>?_) fun c9 h=>?_
 ·cases h;exact aE hC [4] [(4,vB false)] zr
 refine qk (aE hC [13] [(13,vI 1)] ?_);obtain⟨x21,hx21,x22,hx22,h⟩:=gQ h;refine rq hC [oC [28] [] (e9 G hx21),.z (.len 10 (x21.2.map rI).length),oQ (aAk rI hx22)] [10,13,81,82,83] [(10,ms 28 1 1 rI x21.2),(13,vI x21.1)] [(28,some (ar 3 1 1 rI x21.2))] [(28,true)] (aE hC [14] [(14,vI 1)] ?_);obtain⟨x23,hx23,h⟩:=bd h;refine aU hC [.z (.b (true)),oV (tE G hx23)] [14,84,85,86] [(14,vI x23)] (qs (aE hC [87,88] [(88,vD (x23<0))] (aX h (fun c10 h=>?_) fun c10 h=>?_)))
 ·cases h;exact aE hC [4] [(4,vB false)] zr
 refine qk (qs (aE hC [89,90,91] [(91,vB (!decide (x23=x21.1)))] (aX h (fun c11 h=>?_) fun c11 h=>?_)))
 ·cases h;exact aE hC [4] [(4,vB false)] zr
 refine qk ?_;obtain⟨x24,hx24,x25,hx25,x26,hx26,h⟩:=w5 h;refine rq hC [oC [] [32,33] (fS G hx24),oC [] [34] (iB G hx25),oC [32,33,34] [35] (m0 G hx26)] [15,16,92,93,94,95,96,97,98,99] [(15,ms 35 1 1 rI x26.1),(16,vB x26.2)] [(32,some (E.tree aW 1 1 (x24.arrays.map aN) [])),(33,some (E.tree aW 6 1 (x24.parts.map aJ) [])),(34,some (ar 3 1 1 rI x25)),(35,some (ar 3 1 1 rI x26.1))] [(32,true),(33,true),(34,true),(32,true),(33,true),(34,true),(35,true)] (qs (vj h (fun x_=>gP [(10,ms 28 1 1 rI x21.2),(13,vI x21.1),(108,vB x_)] [(20,E.tree aW 1 1 (x2.arrays.map aN) []),(21,E.tree aW 6 1 (x2.parts.map aJ) []),(22,ar 3 1 1 rI x3),(23,ar 3 1 1 rI x4.1),(27,ar 3 1 1 rI x16.2),(28,ar 3 1 1 rI x21.2),(29,E.tree aW 1 1 (x11.arrays.map aN) []),(30,E.tree aW 6 1 (x11.parts.map aJ) []),(31,ar 3 1 1 rI x13),(32,E.tree aW 1 1 (x24.arrays.map aN) []),(33,E.tree aW 6 1 (x24.parts.map aJ) []),(34,ar 3 1 1 rI x25),(35,ar 3 1 1 rI x26.1)] [20,21,22,23,24,25,26,27,28,29,30,31,32,33,34,35]) (fun j27 h=>?_) fun x29 h=>?_))
 ·obtain⟨x28,hx28,h⟩:=bd h;exact aZ h (fun c12 h=>bM hC ([.z (.b (true)),oV (dW G hx28)]++rF 4 c12) (fr 100 9) [(108,vB (!(x26.2==x4.2)))] (lE h)) fun c12 h=>bM hC ([.z (.b (true)),oV (dW G hx28)]++rT 4 c12) (fr 100 9) [(108,vB true)] (lE h)
 refine aX h (fun c13 h=>?_) fun c13 h=>?_
 ·cases h;exact aE hC [4] [(4,vB false)] zr
 refine qk (aE hC [14] [(14,vI 1)] ?_);obtain⟨x30,hx30,h⟩:=bd h;refine aU hC [.z (.b (true)),oV (tE G hx30)] [14,109,110,111] [(14,vI x30)] (qs (aE hC [112,113] [(113,vD (x30<0))] (aX h (fun c14 h=>?_) fun c14 h=>?_)))
 ·cases h;exact aE hC [4] [(4,vB false)] zr
 refine qk (qs (aE hC [114,115,116] [(116,vB (!decide (x30=x21.1)))] (aX h (fun c15 h=>?_) fun c15 h=>?_)))
 ·cases h;exact aE hC [4] [(4,vB false)] zr
 cases h;exact qk (aE hC [4] [(4,vB true)] zr)
end Go.Lift
