/- The walks: the code computes what the plain functions say. -/
import Derived.Test.YtohillieiccgdaaGreatDoorXModels
import Derived.Test.YtohillieiccgdaaGreatDoorXTab
import Derived.Test.YtohillieiccgdaaGreatDoorXCells
set_option maxRecDepth 10000
set_option linter.unusedVariables false
namespace Go.Lift
open Go Go.Proofs
variable (G:GS) {n:Nat}
theorem O4{code}{r}(h:mA n code=some r):VQ G 10 [] [vM rY code] (V.ref 0 0) [eL r]:=by
 unfold mA at h
 refine vq aQ Tryz.func10 rfl fun w X β0 hC hg=> ?_
 refine rq hC [] [2] [] [] [] (vj h (fun x_=>bA [(0,vM rY x_)] [] []) (fun j1 h=> ?_) (fun x3 h=> ?_))
 ·
  refine rq hC [oN rY code] [3,4,5] [(5,vB (decide ((2000:Int)<(code.length:Int))))] [] [] (aS h (fun c1 h=> ?_) (fun c1 h=> ?_))
  ·obtain⟨x2,hx2,h⟩:=bd h
   exact rk hC [oA (rA rY hx2),oQ (b8 (r:=rY) 1 (fun _=>rfl) code)] [0,6,7] [(0,vM rY x2)] [] [] (lE h)
  ·exact qk (lE h)
 ·obtain rfl:=so h
  exact rq hC [.z (.nat 0)] [2,8,9,10] [(2,V.ref 0 0)] [(0,sc [vM rY x3,vI 0])] [(0,true)] (qr eW)
theorem yC{nest}{r}(h:kQ n nest=some r):VQ G 44 [] [vM aC nest] (ms 0 1 2 aC r) [E.tree jM 0 1 (List.map aC r) []]:=by
 unfold kQ at h
 refine vq aQ Tryz.func44 rfl fun w X β0 hC hg=> ?_
 refine rq hC [] [2] [] [] [] (rq hC [.z (.nat 20),.z (.at 1),.z (.tre 20 jM 0)] [3,10] [(3,ms 20 1 2 aC [])] [(20,some (E.tree jM 0 1 (List.map aC []) []))] [(20,true)] (qs (rq hC [] [4] [(4,vI 0)] [] [] (qb (bJ (γ:=Nat) h (fun x_ g_=>bA [(0,vM aC nest),(3,ms 20 g_ 2 aC x_.1),(4,vI x_.2)] [(20,E.tree jM 0 g_ (List.map aC x_.1) [])] [20]) 1 (lS) ?_)))))
 rintro again4 ⟨x1,x2⟩ g3 h
 refine qs (rq hC [oN aC nest] (fr 11 4) [(14,vB (decide (x2<(nest.length:Int))))] [] [] (aS h (fun c1 h=> ?_) (fun c1 h=> ?_)))
 ·refine qk (qs (qb (rq hC [.z (.nat 21)] [5,17] [(5,V.ref 21 0)] [(21,sc [V.t T.nilS,V.t T.nilS])] [(21,true)] (qs (rq hC [] [6] [(6,vI 0)] [] [] ?_)))))
  refine qb (qw (lk hC [.growc 21 0 22 64] [] [] [(22,some (ar 64 1 2 aB [])),(21,sc [ms 22 1 2 aB [],V.t T.nilS])] [(22,true)]) (bJ (γ:=Nat) h (fun x_ g_=>bA [(0,vM aC nest),(3,ms 20 g3 2 aC x1),(4,vI x2),(5,V.ref 21 0),(6,vI x_.2)] [(20,E.tree jM 0 g3 (List.map aC x1) []),(21,E.cells [ms 22 g_ 2 aB x_.1,V.t T.nilS]),(22,ar 64 g_ 2 aB x_.1)] [20,21,22]) 1 (lS) ?_))
  rintro again8 ⟨x5,x6⟩ g7 h
  refine qs ?_
  obtain⟨x9,hx9,h⟩:=bd h
  refine rq hC [oR aC hx9,oN aB x9.lo] (fr 18 8) [(25,vB (decide (x6<(x9.lo.length:Int))))] [] [] (aS h (fun c2 h=> ?_) (fun c2 h=> ?_))
  ·refine qk (qs (qb ?_))
   obtain⟨x10,hx10,h⟩:=bd h
   refine rq hC [oR aC hx9,oR aB hx10,.z (.nat 23)] [7,28,29,30,31,32,33,34,35] [(7,V.ref 23 0)] [(23,some (E.cells (bC x10)))] [(23,true)] ?_
   obtain⟨x11,hx11,x12,hx12,h⟩:=d7 h
   exact dk hC bO [.z (.nat 24),oA (aO rI hx11),.z (.at 5),.z (.fz 24 [41] []),.z (.int 0),oQ (b8 (r:=rI) 1 (fun _=>rfl) []),oQ (b8 (r:=rI) 1 (fun _=>rfl) x10.coefs),oA (aO aB hx12),oQ (b8 (r:=aB) 2 bF x5),oQ (b8 (r:=aB) 2 bF [(⟨x11,x10.const⟩:Affine)])] (fr 36 12) [] [(24,none),(22,some (ar 64 (g7+1) 2 aB x12)),(21,sc [ms 22 (g7+1) 2 aB x12,V.t T.nilS])] [(24,true)] (rk hC [] [6,26,27] [(6,vI (wr (x6+1)))] [] [] ⟨(x12,wr (x6+1)),(g7+1),h,lS⟩)
  ·refine dE (qs (rq hC [] [8] [(8,vI 0)] [] [] (qb (qw (lk hC [.growc 21 1 23 64] [] [] [(23,some (ar 64 1 2 aB [])),(21,sc [ms 22 g7 2 aB x5,ms 23 1 2 aB []])] [(23,true)]) (bJ (γ:=Nat) h (fun x_ g_=>bA [(0,vM aC nest),(3,ms 20 g3 2 aC x1),(4,vI x2),(5,V.ref 21 0),(8,vI x_.2)] [(20,E.tree jM 0 g3 (List.map aC x1) []),(21,E.cells [ms 22 g7 2 aB x5,ms 23 g_ 2 aB x_.1]),(22,ar 64 g7 2 aB x5),(23,ar 64 g_ 2 aB x_.1)] [20,21,22,23]) 1 (lS) ?_)))))
   rintro again16 ⟨x13,x14⟩ g15 h
   refine qs (rq hC [oR aC hx9,oN aB x9.hi] (fr 48 8) [(55,vB (decide (x14<(x9.hi.length:Int))))] [] [] (aS h (fun c3 h=> ?_) (fun c3 h=> ?_)))
   ·refine qk (qs (qb ?_))
    obtain⟨x17,hx17,h⟩:=bd h
    refine rq hC [oR aC hx9,oR aB hx17,.z (.nat 24)] [9,58,59,60,61,62,63,64,65] [(9,V.ref 24 0)] [(24,some (E.cells (bC x17)))] [(24,true)] ?_
    obtain⟨x18,hx18,x19,hx19,h⟩:=d7 h
    exact dk hC bO [.z (.nat 25),oA (aO rI hx18),.z (.at 5),.z (.fz 25 [71] []),.z (.int 0),oQ (b8 (r:=rI) 1 (fun _=>rfl) []),oQ (b8 (r:=rI) 1 (fun _=>rfl) x17.coefs),oA (aO aB hx19),oQ (b8 (r:=aB) 2 bF x13),oQ (b8 (r:=aB) 2 bF [(⟨x18,x17.const⟩:Affine)])] (fr 66 12) [] [(25,none),(23,some (ar 64 (g15+1) 2 aB x19)),(21,sc [ms 22 g7 2 aB x5,ms 23 (g15+1) 2 aB x19])] [(25,true)] (rk hC [] [8,56,57] [(8,vI (wr (x14+1)))] [] [] ⟨(x19,wr (x14+1)),(g15+1),h,lS⟩)
   ·refine dE ?_
    obtain⟨x20,hx20,h⟩:=bd h
    exact rk hC [.z (.lt 24 jM 0),.z (.rows (List.map aC (x1++[(⟨[],[]⟩:Loop)]))),.z (.at 1),.z (.tre 22 jM 1),.z (.unf 20 22 (aC (⟨[],[]⟩:Loop)) (List.map aC (x1++[(⟨x5,[]⟩:Loop)]))),.z (.tre 23 jM 1),.z (.unf 20 23 (aC (⟨x5,[]⟩:Loop)) (List.map aC x20)),.z (.len 81 (List.map aC x20).length),oQ (Eq.refl (ndOf jM 0)),oQ (aFf aC (⟨[],[]⟩:Loop) hx20),oQ (b8 (r:=aC) 2 eQ x1),oQ (b8 (r:=aC) 2 eQ [(⟨[],[]⟩:Loop)]),oQ (Eq.refl (List.map aB x5).length),oQ (Eq.refl jM),oQ (aBw aC x1 (⟨[],[]⟩:Loop)),oQ (aES aC x1 (ph:=(⟨[],[]⟩:Loop)) (y:=(⟨x5,[]⟩:Loop)) rfl),oQ (Eq.refl (List.map aB x13).length),oQ (Eq.refl jM),oQ (aBw aC x1 (⟨x5,[]⟩:Loop)),oQ (aBq aC (ph:=(⟨x5,[]⟩:Loop)) hx20 rfl),oQ (aEW aC (⟨[],[]⟩:Loop) hx20)] [3,78,79,80,81] [(3,ms 20 (g3+1) 2 aC x20)] [(24,some (E.tree jM 0 1 (List.map aC [(⟨[],[]⟩:Loop)]) [(0,0,ms 22 g7 2 aB x5),(0,1,ms 23 g15 2 aB x13)])),(20,some (E.tree jM 0 (g3+1) (List.map aC x20) [])),(22,none),(23,none)] [(24,true)] (rk hC [] [4,15,16] [(4,vI (wr (x2+1)))] [] [] ⟨(x20,wr (x2+1)),(g3+1),h,lS⟩)
 ·obtain rfl:=so h
  exact dE (rq hC [] [2,82] [(2,ms 20 g3 2 aC x1)] [] [] (qw (lk hC [.rn 20 0 [2,3] []] [2,3] [(2,ms 0 1 2 aC x1),(3,ms 0 1 2 aC x1)] [(20,none),(0,some (E.tree jM 0 1 (List.map aC x1) []))] [(0,true)]) (qr eW)))
theorem mM{a}{r}(h:dW n a=some r):VQ G 107 [] [V.agg (bC a)] (V.agg [ms 0 1 1 rI r.coefs,vI r.const]) [ar 3 1 1 rI r.coefs]:=by
 unfold dW at h
 refine vq aQ Tryz.func107 rfl fun w X β0 hC hg=> ?_
 refine rq hC [.z (.b (true)),.z (.nat 20)] [1,2] [(1,V.tp (bI a)),(2,V.ref 20 0)] [(20,sc [V.t T.nilS,vI 0])] [(20,true)] (qs (rq hC [oN rI a.coefs] (fr 3 4) [(6,vB (decide ((a.coefs.length:Int)=0)))] [] [] (aS h (fun c1 h=> ?_) (fun c1 h=> ?_))))
 ·obtain rfl:=so h
  exact rq hC [] [7,8,9] [] [(20,sc [V.t T.nilS,vI a.const])] [] (qw (lk hC [.growc 20 0 21 3] [] [] [(21,some (ar 3 1 1 rI [])),(20,sc [ms 21 1 1 rI [],vI a.const])] [(21,true)]) (qw (lk hC [.rn 21 0 [] [20]] [] [] [(20,sc [ms 0 1 1 rI [],vI a.const]),(21,none),(0,some (ar 3 1 1 rI []))] [(0,true)]) (qr eW)))
 ·refine qk (qs ?_)
  obtain⟨x1,hx1,h⟩:=bd h
  obtain rfl:=so h
  exact dk hC bO [.z (.nat 21),oA (aO rI hx1),oQ (b8 (r:=rI) 1 (fun _=>rfl) []),oQ (b8 (r:=rI) 1 (fun _=>rfl) a.coefs)] (fr 10 7) [] [(21,some (ar 3 2 1 rI x1)),(20,sc [ms 21 2 1 rI x1,vI a.const])] [(21,true)] (qw (lk hC [.rn 21 0 [] [20]] [] [] [(20,sc [ms 0 1 1 rI x1,vI a.const]),(21,none),(0,some (ar 3 1 1 rI x1))] [(0,true)]) (qr eW))
theorem iM{a}{r}(h:dF n a=some r):VQ G 72 [] [V.agg (dV a)] (V.agg [vS r.array,ms 0 1 2 aB r.subs]) [ar 64 1 2 aB r.subs]:=by
 unfold dF at h
 refine vq aQ Tryz.func72 rfl fun w X β0 hC hg=> ?_
 refine rq hC [.z (.b (true)),.z (.nat 20)] [1,2] [(1,V.tp (dU a)),(2,V.ref 20 0)] [(20,sc [vS [],V.t T.nilS])] [(20,true)] (rq hC [.z (.nat 21)] [3,5,6,7] [(3,V.ref 21 0)] [(21,sc [vS a.array,V.t T.nilS])] [(21,true)] (qs (rq hC [] [4] [(4,vI 0)] [] [] (qb (qw (lk hC [.growc 21 1 22 64] [] [] [(22,some (ar 64 1 2 aB [])),(21,sc [vS a.array,ms 22 1 2 aB []])] [(22,true)]) ?_)))))
 refine bJ (γ:=Nat) h (fun x_ g_=>bA [(1,V.tp (dU a)),(2,V.ref 20 0),(3,V.ref 21 0),(4,vI x_.2)] [(20,E.cells [vS [],V.t T.nilS]),(21,E.cells [vS a.array,ms 22 g_ 2 aB x_.1]),(22,ar 64 g_ 2 aB x_.1)] [20,21,22]) 1 (lS) ?_
 rintro again4 ⟨x1,x2⟩ g3 h
 refine qs (rq hC [oN aB a.subs] (fr 8 5) [(12,vB (decide (x2<(a.subs.length:Int))))] [] [] (aS h (fun c1 h=> ?_) (fun c1 h=> ?_)))
 ·refine qk (qs (qb ?_))
  obtain⟨x5,hx5,x6,hx6,x7,hx7,h⟩:=kI h
  exact dk hC bO [oR aB hx5,oC [] [23] (mM G hx6),.z (.at 4),.z (.fz 23 [22] []),.z (.int 0),oA (aO aB hx7),oQ (b8 (r:=aB) 2 bF x1),oQ (b8 (r:=aB) 2 bF [x6])] (fr 15 11) [] [(23,none),(22,some (ar 64 (g3+1) 2 aB x7)),(21,sc [vS a.array,ms 22 (g3+1) 2 aB x7])] [(23,true)] (rk hC [] [4,13,14] [(4,vI (wr (x2+1)))] [] [] ⟨(x7,wr (x2+1)),(g3+1),h,lS⟩)
 ·obtain rfl:=so h
  exact dE (rq hC [] [26] [] [(20,sc [vS a.array,ms 22 g3 2 aB x1])] [] (qw (lk hC [.rn 22 0 [] [20,21]] [] [] [(20,sc [vS a.array,ms 0 1 2 aB x1]),(21,sc [vS a.array,ms 0 1 2 aB x1]),(22,none),(0,some (ar 64 1 2 aB x1))] [(0,true)]) (qr eW)))
theorem yA(G:GS): ∀(n:Nat) (e:Expr) {r:Expr} (h:s_l3CopyExpr n e=some r),VQ G 73 [] [V.agg (fV e)] (V.agg [vI r.kind,vI r.num,ms 0 1 1 rI r.index.coefs,vI r.index.const,vS r.read.array,ms 1 1 2 aB r.read.subs,ms 2 1 7 aM r.kids]) [ar 3 1 1 rI r.index.coefs,ar 64 1 2 aB r.read.subs,ar 67 1 7 aM r.kids]:=by
 intro n
 induction n with
 |zero=>intro e r h;rw [s_l3CopyExpr.eq_def] at h;cases h
 |succ n ih=>
  intro e r h
  rw [s_l3CopyExpr.eq_def] at h;dsimp only at h
  refine vq aQ Tryz.func73 rfl fun w X β0 hC hg=> ?_
  refine rq hC [.z (.b (true)),.z (.nat 20)] [1,2] [(1,V.tp (hA e)),(2,V.ref 20 0)] [(20,sc [vI 0,vI 0,V.t T.nilS,vI 0,vS [],V.t T.nilS,V.t T.nilS])] [(20,true)] (qs ?_)
  obtain⟨x1,hx1,x2,hx2,h⟩:=d7 h
  refine dk hC bO [oC [] [21] (mM G hx1),oC [] [22] (iM G hx2),.z (.nat 23)] [3,5,6,7,8,9,10,11,12,13,14,15] [(3,V.ref 23 0)] [(21,some (ar 3 1 1 rI x1.coefs)),(22,some (ar 64 1 2 aB x2.subs)),(23,sc [vI e.kind,vI e.num,ms 21 1 1 rI x1.coefs,vI x1.const,vS x2.array,ms 22 1 2 aB x2.subs,V.t T.nilS])] [(21,true),(22,true),(23,true)] (qs (rq hC [] [4] [(4,vI 0)] [] [] (qb (qw (lk hC [.growc 23 6 24 67] [] [] [(24,some (ar 67 1 7 aM [])),(23,sc [vI e.kind,vI e.num,ms 21 1 1 rI x1.coefs,vI x1.const,vS x2.array,ms 22 1 2 aB x2.subs,ms 24 1 7 aM []])] [(24,true)]) (bJ (γ:=Nat) h (fun x_ g_=>bA [(1,V.tp (hA e)),(2,V.ref 20 0),(3,V.ref 23 0),(4,vI x_.2)] [(20,E.cells [vI 0,vI 0,V.t T.nilS,vI 0,vS [],V.t T.nilS,V.t T.nilS]),(21,ar 3 1 1 rI x1.coefs),(22,ar 64 1 2 aB x2.subs),(23,E.cells [vI e.kind,vI e.num,ms 21 1 1 rI x1.coefs,vI x1.const,vS x2.array,ms 22 1 2 aB x2.subs,ms 24 g_ 7 aM x_.1]),(24,ar 67 g_ 7 aM x_.1)] [20,21,22,23,24]) 1 (lS) ?_)))))
  rintro again6 ⟨x3,x4⟩ g5 h
  refine qs (rq hC [oN aM e.kids] (fr 16 5) [(20,vB (decide (x4<(e.kids.length:Int))))] [] [] (aS h (fun c1 h=> ?_) (fun c1 h=> ?_)))
  ·refine qk (qs (qb ?_))
   obtain⟨x7,hx7,x8,hx8,x9,hx9,h⟩:=kI h
   exact dk hC bO [.z (.row (fA x7)),oQ (iU aM hx7 (dY x7)),oC [] [25,26,27] (ih x7 hx8),.z (.at 4),.z (.fz 25 [30] []),.z (.at 4),.z (.fz 26 [30] []),.z (.at 4),.z (.fz 27 [30] []),.z (.int 2),.z (.rows (List.map aM [x8])),oQ (G3 x8),oA (aO aM hx9),oQ (b8 (r:=aM) 7 kD x3),oQ (b8 (r:=aM) 7 kD [x8])] (fr 23 11) [] [(25,none),(26,none),(27,none),(24,some (ar 67 (g5+1) 7 aM x9)),(23,sc [vI e.kind,vI e.num,ms 21 1 1 rI x1.coefs,vI x1.const,vS x2.array,ms 22 1 2 aB x2.subs,ms 24 (g5+1) 7 aM x9])] [(25,true),(26,true),(27,true)] (rk hC [] [4,21,22] [(4,vI (wr (x4+1)))] [] [] ⟨(x9,wr (x4+1)),(g5+1),h,lS⟩)
  ·obtain rfl:=so h
   exact dE (rq hC [] [34] [] [(20,sc [vI e.kind,vI e.num,ms 21 1 1 rI x1.coefs,vI x1.const,vS x2.array,ms 22 1 2 aB x2.subs,ms 24 g5 7 aM x3])] [] (qw (lk hC [.rn 21 0 [] [20,23]] [] [] [(20,sc [vI e.kind,vI e.num,ms 0 1 1 rI x1.coefs,vI x1.const,vS x2.array,ms 22 1 2 aB x2.subs,ms 24 g5 7 aM x3]),(23,sc [vI e.kind,vI e.num,ms 0 1 1 rI x1.coefs,vI x1.const,vS x2.array,ms 22 1 2 aB x2.subs,ms 24 g5 7 aM x3]),(21,none),(0,some (ar 3 1 1 rI x1.coefs))] [(0,true)]) (qw (lk hC [.rn 22 1 [] [20,23]] [] [] [(20,sc [vI e.kind,vI e.num,ms 0 1 1 rI x1.coefs,vI x1.const,vS x2.array,ms 1 1 2 aB x2.subs,ms 24 g5 7 aM x3]),(23,sc [vI e.kind,vI e.num,ms 0 1 1 rI x1.coefs,vI x1.const,vS x2.array,ms 1 1 2 aB x2.subs,ms 24 g5 7 aM x3]),(22,none),(1,some (ar 64 1 2 aB x2.subs))] [(1,true)]) (qw (lk hC [.rn 24 2 [] [20,23]] [] [] [(20,sc [vI e.kind,vI e.num,ms 0 1 1 rI x1.coefs,vI x1.const,vS x2.array,ms 1 1 2 aB x2.subs,ms 2 1 7 aM x3]),(23,sc [vI e.kind,vI e.num,ms 0 1 1 rI x1.coefs,vI x1.const,vS x2.array,ms 1 1 2 aB x2.subs,ms 2 1 7 aM x3]),(24,none),(2,some (ar 67 1 7 aM x3))] [(2,true)]) (qr eW)))))
theorem yB{s}{r}(h:iX n s=some r):VQ G 45 [] [V.agg (hS s)] (V.agg [vS r.write.array,ms 0 1 2 aB r.write.subs,vI r.value.kind,vI r.value.num,ms 1 1 1 rI r.value.index.coefs,vI r.value.index.const,vS r.value.read.array,ms 2 1 2 aB r.value.read.subs,ms 3 1 7 aM r.value.kids]) [ar 64 1 2 aB r.write.subs,ar 3 1 1 rI r.value.index.coefs,ar 64 1 2 aB r.value.read.subs,ar 67 1 7 aM r.value.kids]:=by
 unfold iX at h
 refine vq aQ Tryz.func45 rfl fun w X β0 hC hg=> ?_
 refine rq hC [.z (.b (true)),.z (.nat 20)] [1,2] [(1,V.tp (pY s)),(2,V.ref 20 0)] [(20,sc [vS [],V.t T.nilS,vI 0,vI 0,V.t T.nilS,vI 0,vS [],V.t T.nilS,V.t T.nilS])] [(20,true)] (qs ?_)
 obtain⟨x1,hx1,x2,hx2,h⟩:=d7 h
 obtain rfl:=so h
 exact dk hC bO [oC [] [21] (iM G hx1),oC [] [22,23,24] (yA G n s.value hx2)] (fr 3 7) [] [(21,some (ar 64 1 2 aB x1.subs)),(22,some (ar 3 1 1 rI x2.index.coefs)),(23,some (ar 64 1 2 aB x2.read.subs)),(24,some (ar 67 1 7 aM x2.kids)),(20,sc [vS x1.array,ms 21 1 2 aB x1.subs,vI x2.kind,vI x2.num,ms 22 1 1 rI x2.index.coefs,vI x2.index.const,vS x2.read.array,ms 23 1 2 aB x2.read.subs,ms 24 1 7 aM x2.kids])] [(21,true),(22,true),(23,true),(24,true)] (qw (lk hC [.rn 21 0 [] [20]] [] [] [(20,sc [vS x1.array,ms 0 1 2 aB x1.subs,vI x2.kind,vI x2.num,ms 22 1 1 rI x2.index.coefs,vI x2.index.const,vS x2.read.array,ms 23 1 2 aB x2.read.subs,ms 24 1 7 aM x2.kids]),(21,none),(0,some (ar 64 1 2 aB x1.subs))] [(0,true)]) (qw (lk hC [.rn 22 1 [] [20]] [] [] [(20,sc [vS x1.array,ms 0 1 2 aB x1.subs,vI x2.kind,vI x2.num,ms 1 1 1 rI x2.index.coefs,vI x2.index.const,vS x2.read.array,ms 23 1 2 aB x2.read.subs,ms 24 1 7 aM x2.kids]),(22,none),(1,some (ar 3 1 1 rI x2.index.coefs))] [(1,true)]) (qw (lk hC [.rn 23 2 [] [20]] [] [] [(20,sc [vS x1.array,ms 0 1 2 aB x1.subs,vI x2.kind,vI x2.num,ms 1 1 1 rI x2.index.coefs,vI x2.index.const,vS x2.read.array,ms 2 1 2 aB x2.read.subs,ms 24 1 7 aM x2.kids]),(23,none),(2,some (ar 64 1 2 aB x2.read.subs))] [(2,true)]) (qw (lk hC [.rn 24 3 [] [20]] [] [] [(20,sc [vS x1.array,ms 0 1 2 aB x1.subs,vI x2.kind,vI x2.num,ms 1 1 1 rI x2.index.coefs,vI x2.index.const,vS x2.read.array,ms 2 1 2 aB x2.read.subs,ms 3 1 7 aM x2.kids]),(24,none),(3,some (ar 67 1 7 aM x2.kids))] [(3,true)]) (qr eW)))))
theorem V5{p}{r}(h:oL n p=some r):VQ G 17 [] [V.agg (dT p)] (V.agg [ms 0 1 2 aL r.arrays,ms 1 1 2 aE r.parts]) [ar 58 1 2 aL r.arrays,E.tree jM 2 1 (List.map aE r.parts) []]:=by
 unfold oL at h
 refine vq aQ Tryz.func17 rfl fun w X β0 hC hg=> ?_
 refine rq hC [.z (.b (true)),.z (.nat 20)] [1,2] [(1,V.tp (cL p)),(2,V.ref 20 0)] [(20,sc [V.t T.nilS,V.t T.nilS])] [(20,true)] (rq hC [.z (.nat 21)] [3,8] [(3,V.ref 21 0)] [(21,sc [V.t T.nilS,V.t T.nilS])] [(21,true)] (qs (rq hC [] [4] [(4,vI 0)] [] [] (qb (qw (lk hC [.growc 21 0 22 58] [] [] [(22,some (ar 58 1 2 aL [])),(21,sc [ms 22 1 2 aL [],V.t T.nilS])] [(22,true)]) ?_)))))
 refine bJ (γ:=Nat) h (fun x_ g_=>bA [(1,V.tp (cL p)),(2,V.ref 20 0),(3,V.ref 21 0),(4,vI x_.2)] [(20,E.cells [V.t T.nilS,V.t T.nilS]),(21,E.cells [ms 22 g_ 2 aL x_.1,V.t T.nilS]),(22,ar 58 g_ 2 aL x_.1)] [20,21,22]) 1 (lS) ?_
 rintro again4 ⟨x1,x2⟩ g3 h
 refine qs (rq hC [oN aL p.arrays] (fr 9 5) [(13,vB (decide (x2<(p.arrays.length:Int))))] [] [] (aS h (fun c1 h=> ?_) (fun c1 h=> ?_)))
 ·refine qk (qs (qb ?_))
  obtain⟨x5,hx5,x6,hx6,x7,hx7,h⟩:=kI h
  exact dk hC bO [oR aL hx5,.z (.nat 23),oR aL hx5,oA (aO rI hx6),.z (.at 5),.z (.fz 23 [31] []),.z (.int 0),oQ (b8 (r:=rI) 1 (fun _=>rfl) []),oQ (b8 (r:=rI) 1 (fun _=>rfl) x5.dims),oA (aO aL hx7),oQ (b8 (r:=aL) 2 mD x1),oQ (b8 (r:=aL) 2 mD [(⟨x5.name,x6⟩:Arr)])] (fr 16 20) [] [(23,none),(22,some (ar 58 (g3+1) 2 aL x7)),(21,sc [ms 22 (g3+1) 2 aL x7,V.t T.nilS])] [(23,true)] (rk hC [] [4,14,15] [(4,vI (wr (x2+1)))] [] [] ⟨(x7,wr (x2+1)),(g3+1),h,lS⟩)
 ·refine dE (qs (rq hC [] [5] [(5,vI 0)] [] [] (qb (qw (lk hC [.growc 21 1 23 43,.tre 23 jM 2] [] [] [(23,some (E.tree jM 2 1 (List.map aE []) [])),(21,sc [ms 22 g3 2 aL x1,ms 23 1 2 aE []])] [(23,true)]) (bJ (γ:=Nat) h (fun x_ g_=>bA [(1,V.tp (cL p)),(2,V.ref 20 0),(3,V.ref 21 0),(5,vI x_.2)] [(20,E.cells [V.t T.nilS,V.t T.nilS]),(21,E.cells [ms 22 g3 2 aL x1,ms 23 g_ 2 aE x_.1]),(22,ar 58 g3 2 aL x1),(23,E.tree jM 2 g_ (List.map aE x_.1) [])] [20,21,22,23]) 1 (lS) ?_)))))
  rintro again11 ⟨x8,x9⟩ g10 h
  refine qs (rq hC [oN aE p.parts] (fr 36 5) [(40,vB (decide (x9<(p.parts.length:Int))))] [] [] (aS h (fun c2 h=> ?_) (fun c2 h=> ?_)))
  ·refine qk (qs (qb ?_))
   obtain⟨x12,hx12,x13,hx13,h⟩:=d7 h
   refine rq hC [oR aE hx12,oC [] [24] (yC G hx13),.z (.nat 25)] [6,43,44,45,46,47,48,49,50] [(6,V.ref 25 0)] [(24,some (E.tree jM 0 1 (List.map aC x13) [])),(25,sc [ms 24 1 2 aC x13,V.t T.nilS])] [(24,true),(25,true)] (qs (rq hC [] [7] [(7,vI 0)] [] [] (qb (qw (lk hC [.growc 25 1 26 69] [] [] [(26,some (ar 69 1 9 aR [])),(25,sc [ms 24 1 2 aC x13,ms 26 1 9 aR []])] [(26,true)]) (bJ (γ:=Nat) h (fun x_ g_=>bA [(1,V.tp (cL p)),(2,V.ref 20 0),(3,V.ref 21 0),(5,vI x9),(6,V.ref 25 0),(7,vI x_.2)] [(20,E.cells [V.t T.nilS,V.t T.nilS]),(21,E.cells [ms 22 g3 2 aL x1,ms 23 g10 2 aE x8]),(22,ar 58 g3 2 aL x1),(23,E.tree jM 2 g10 (List.map aE x8) []),(24,E.tree jM 0 1 (List.map aC x13) []),(25,E.cells [ms 24 1 2 aC x13,ms 26 g_ 9 aR x_.1]),(26,ar 69 g_ 9 aR x_.1)] [20,21,22,23,24,25,26]) 1 (lS) ?_)))))
   rintro again17 ⟨x14,x15⟩ g16 h
   refine qs (rq hC [oR aE hx12,oN aR x12.body] (fr 51 9) [(59,vB (decide (x15<(x12.body.length:Int))))] [] [] (aS h (fun c3 h=> ?_) (fun c3 h=> ?_)))
   ·refine qk (qs (qb ?_))
    obtain⟨x18,hx18,x19,hx19,x20,hx20,h⟩:=kI h
    exact dk hC bO [oR aE hx12,oR aR hx18,oC [] [27,28,29,30] (yB G hx19),.z (.at 4),.z (.fz 27 [73] []),.z (.at 4),.z (.fz 28 [73] []),.z (.at 4),.z (.fz 29 [73] []),.z (.at 4),.z (.fz 30 [73] []),.z (.int 0),oA (aO aR hx20),oQ (b8 (r:=aR) 9 kC x14),oQ (b8 (r:=aR) 9 kC [x19])] (fr 62 15) [] [(27,none),(28,none),(29,none),(30,none),(26,some (ar 69 (g16+1) 9 aR x20)),(25,sc [ms 24 1 2 aC x13,ms 26 (g16+1) 9 aR x20])] [(27,true),(28,true),(29,true),(30,true)] (rk hC [] [7,60,61] [(7,vI (wr (x15+1)))] [] [] ⟨(x20,wr (x15+1)),(g16+1),h,lS⟩)
   ·refine dE ?_
    obtain⟨x21,hx21,h⟩:=bd h
    exact rk hC [.z (.at 5),.z (.shd 24),.z (.at 5),.z (.fz 24 [] [25]),.z (.lt 27 jM 2),.z (.rows (List.map aE (x8++[(⟨x13,[]⟩:Part)]))),.z (.at 2),.z (.tre 26 jM 3),.z (.unf 23 26 (aE (⟨x13,[]⟩:Part)) (List.map aE x21)),.z (.len 81 (List.map aE x21).length),oQ (Eq.refl (ndOf jM 2)),oQ (aFf aE (⟨x13,[]⟩:Part) hx21),oQ (b8 (r:=aE) 2 iF x8),oQ (b8 (r:=aE) 2 iF [(⟨x13,[]⟩:Part)]),oQ (Eq.refl (List.map aR x14).length),oQ (Eq.refl jM),oQ (aBw aE x8 (⟨x13,[]⟩:Part)),oQ (aBq aE (ph:=(⟨x13,[]⟩:Part)) hx21 rfl),oQ (aEW aE (⟨x13,[]⟩:Part) hx21)] (fr 77 6) [] [(24,none),(25,sc [vM aC x13,ms 26 g16 9 aR x14]),(27,some (E.tree jM 2 1 (List.map aE [(⟨x13,[]⟩:Part)]) [(0,1,ms 26 g16 9 aR x14)])),(23,some (E.tree jM 2 (g10+1) (List.map aE x21) [])),(26,none),(21,sc [ms 22 g3 2 aL x1,ms 23 (g10+1) 2 aE x21])] [(27,true)] (rk hC [] [5,41,42] [(5,vI (wr (x9+1)))] [] [] ⟨(x21,wr (x9+1)),(g10+1),h,lS⟩)
  ·obtain rfl:=so h
   exact dE (rq hC [] [83] [] [(20,sc [ms 22 g3 2 aL x1,ms 23 g10 2 aE x8])] [] (qw (lk hC [.rn 22 0 [] [20,21]] [] [] [(20,sc [ms 0 1 2 aL x1,ms 23 g10 2 aE x8]),(21,sc [ms 0 1 2 aL x1,ms 23 g10 2 aE x8]),(22,none),(0,some (ar 58 1 2 aL x1))] [(0,true)]) (qw (lk hC [.rn 23 1 [] [20,21]] [] [] [(20,sc [ms 0 1 2 aL x1,ms 1 1 2 aE x8]),(21,sc [ms 0 1 2 aL x1,ms 1 1 2 aE x8]),(23,none),(1,some (E.tree jM 2 1 (List.map aE x8) []))] [(1,true)]) (qr eW))))
theorem bB{r_a0}{n_a1}{r}(h:aX n r_a0 n_a1=some r):VQ G 18 [eL r_a0] [V.ref 0 0,vI n_a1] (vI r.1) [eL r.2]:=by
 unfold aX at h
 refine vq aQ Tryz.func18 rfl fun w X β0 hC hg=> ?_
 refine rq hC [] [4] [] [] [] (rq hC [] (fr 7 8) [] [(0,sc [vM rY r_a0.b,vI (wr (r_a0.p+1))])] [] (qs (vj h (fun x_=>bA [(0,V.ref 0 0),(1,vI n_a1),(24,vB x_)] [(0,E.cells [vM rY r_a0.b,vI (wr (r_a0.p+1))])] [0]) (fun j1 h=> ?_) (fun x2 h=> ?_))))
 ·
  refine aT h (fun c1 h=> ?_) (fun c1 h=> ?_)
  ·exact rk hC (rF 5 c1++[oN rY r_a0.b,oF c1,oF c1]) (fr 15 10) [(24,vB (decide ((r_a0.b.length:Int)=0)))] [] [] (lE h)
  ·exact rk hC (rT 7 c1) (fr 15 10) [(24,vB true)] [] [] (lE h)
 ·refine aS h (fun c2 h=> ?_) (fun c2 h=> ?_)
  ·obtain rfl:=so h
   exact rq hC [] [4] [(4,vI 0)] [] [] (qr eW)
  ·refine qk (rq hC [] [5,25,26,27,28,29] [(5,vI (wr ((wr (r_a0.p+1))-1)))] [] [] (qs (rq hC [oN rY r_a0.b] (fr 30 7) [(36,vB (decide (wr ((wr (r_a0.p+1))-1)<(r_a0.b.length:Int))))] [] [] (aS h (fun c3 h=> ?_) (fun c3 h=> ?_)))))
   ·obtain⟨x3,hx3,x4,hx4,h⟩:=d7 h
    obtain rfl:=so h
    exact rq hC [oR rY hx3,.z (.int (x3.toNat:Int)),oQ (u8i x3),oQ (wO hx4)] [4,37,38,39,40,41,42,43,44,45,46] [(4,vI (Int.tmod (x3.toNat:Int) n_a1))] [] [] (qr eW)
   ·refine qk (qs ?_)
    obtain⟨x5,hx5,x6,hx6,x7,hx7,h⟩:=kI h
    obtain⟨x8,hx8,x9,hx9,h⟩:=d7 h
    refine dk hC bO [oN rY r_a0.b,oQ (wO hx5),oR rY hx6,.z (.int (x6.toNat:Int)),oQ (u8i x6),oN rY r_a0.b,oQ (wO hx7),oR rY hx8,.z (.int (x8.toNat:Int)),oQ (u8i x8),oN rY r_a0.b,oQ (wO hx9)] [6,47,48,49,50,51,52,53,54,55,56,57,58,59,60,61,62,63,64,65,66,67,68,69,70,71,72,73,74,75,76,77,78,79,80,81,82,83,84,85,86,87,88,89,90,91] [(6,vI (wr ((wr ((wr ((wr ((x6.toNat:Int)*131))+(wr ((x8.toNat:Int)*1117))))+(wr ((wr ((wr (r_a0.p+1))-1))*29))))+(wr ((wr (Int.tdiv (wr ((wr (r_a0.p+1))-1)) (r_a0.b.length:Int)))*53)))))] [] [] (rq hC [oQ (show(64:Int)≠0 by decide)] [6,92,93,94,95] [(6,vI (bits BinOp.xor IntKind.i64 (wr ((wr ((wr ((wr ((x6.toNat:Int)*131))+(wr ((x8.toNat:Int)*1117))))+(wr ((wr ((wr (r_a0.p+1))-1))*29))))+(wr ((wr (Int.tdiv (wr ((wr (r_a0.p+1))-1)) (r_a0.b.length:Int)))*53)))) (wr (Int.tdiv (wr ((wr ((wr ((wr ((x6.toNat:Int)*131))+(wr ((x8.toNat:Int)*1117))))+(wr ((wr ((wr (r_a0.p+1))-1))*29))))+(wr ((wr (Int.tdiv (wr ((wr (r_a0.p+1))-1)) (r_a0.b.length:Int)))*53)))) 64))))] [] [] ?_)
    obtain⟨x10,hx10,h⟩:=bd h
    obtain rfl:=so h
    exact rq hC [oQ (wO hx10)] [4,96,97,98] [(4,vI (Int.tmod (bits BinOp.xor IntKind.i64 (wr ((wr ((wr ((wr ((x6.toNat:Int)*131))+(wr ((x8.toNat:Int)*1117))))+(wr ((wr ((wr (r_a0.p+1))-1))*29))))+(wr ((wr (Int.tdiv (wr ((wr (r_a0.p+1))-1)) (r_a0.b.length:Int)))*53)))) (wr (Int.tdiv (wr ((wr ((wr ((wr ((x6.toNat:Int)*131))+(wr ((x8.toNat:Int)*1117))))+(wr ((wr ((wr (r_a0.p+1))-1))*29))))+(wr ((wr (Int.tdiv (wr ((wr (r_a0.p+1))-1)) (r_a0.b.length:Int)))*53)))) 64))) n_a1))] [] [] (qr eW)
theorem gX{r_a0}{list}{r}(h:dR n r_a0 list=some r):VQ G 19 [eL r_a0] [V.ref 0 0,vM rS list] (vS r.1) [eL r.2]:=by
 unfold dR at h
 refine vq aQ Tryz.func19 rfl fun w X β0 hC hg=> ?_
 refine rq hC [] [4] [] [] [] ?_
 obtain⟨x1,hx1,x2,hx2,h⟩:=d7 h
 obtain rfl:=so h
 exact rq hC [oN rS list,oC [0] [] (bB G hx1),oR rS hx2] (fr 4 8) [(4,vS x2)] [(0,sR x1.2)] [(0,true)] (qr eW)
theorem aZ{r_a0}{list}{r}(h:aW n r_a0 list=some r):VQ G 20 [eL r_a0] [V.ref 0 0,vM rI list] (vI r.1) [eL r.2]:=by
 unfold aW at h
 refine vq aQ Tryz.func20 rfl fun w X β0 hC hg=> ?_
 refine rq hC [] [4] [] [] [] ?_
 obtain⟨x1,hx1,x2,hx2,h⟩:=d7 h
 obtain rfl:=so h
 exact rq hC [oN rI list,oC [0] [] (bB G hx1),oR rI hx2] (fr 4 8) [(4,vI x2)] [(0,sR x1.2)] [(0,true)] (qr eW)
theorem iO(G:GS)(n:Nat){r:Affine}(h:iY n=some r):VQ G 48 [] [] (V.agg [ms 0 1 1 rI r.coefs,vI r.const]) [ar 3 1 1 rI r.coefs]:=by
 unfold iY at h
 refine vq aQ Tryz.func48 rfl fun w X β0 hC hg=> ?_
 obtain rfl:=so h
 exact rq hC [.z (.nat 20)] [0] [(0,V.ref 20 0)] [(20,sc [V.t T.nilS,vI 0])] [(20,true)] (rq hC [.z (.int 1),.z (.nat 21)] [1,2] [] [(21,some (ar 3 1 1 rI [0,0,0,0])),(20,sc [ms 21 1 1 rI [0,0,0,0],vI 0])] [(21,true)] (qw (lk hC [.rn 21 0 [] [20]] [] [] [(20,sc [ms 0 1 1 rI [0,0,0,0],vI 0]),(21,none),(0,some (ar 3 1 1 rI [0,0,0,0]))] [(0,true)]) (qr eW)))
theorem mN{v}{r}(h:jP n v=some r):VQ G 46 [] [vI v] (V.agg [ms 0 1 1 rI r.coefs,vI r.const]) [ar 3 1 1 rI r.coefs]:=by
 unfold jP at h
 refine vq aQ Tryz.func46 rfl fun w X β0 hC hg=> ?_
 refine rq hC [.z (.nat 20)] [2] [(2,V.ref 20 0)] [(20,sc [V.t T.nilS,vI 0])] [(20,true)] ?_
 obtain⟨x1,hx1,h⟩:=bd h
 refine rq hC [oC [] [21] (iO G n hx1),.z (.nat 22)] [3,4] [(3,V.ref 22 0)] [(21,some (ar 3 1 1 rI x1.coefs)),(22,sc [ms 21 1 1 rI x1.coefs,vI x1.const])] [(21,true),(22,true)] ?_
 obtain⟨x2,hx2,x3,hx3,h⟩:=d7 h
 obtain rfl:=so h
 exact rq hC [oQ (pQ rI hx2),oX rI hx2,.z (.rows (List.map rI x3)),.z (.lenc 22 0 (List.map rI x3).length),oQ (str rI hx3),oQ (rO rI hx3)] (fr 5 4) [] [(21,some (ar 3 1 1 rI x3)),(22,sc [ms 21 1 1 rI x3,vI x1.const])] [] (rq hC [] [9] [] [(20,sc [ms 21 1 1 rI x3,vI x1.const])] [] (qw (lk hC [.rn 21 0 [] [20,22]] [] [] [(20,sc [ms 0 1 1 rI x3,vI x1.const]),(22,sc [ms 0 1 1 rI x3,vI x1.const]),(21,none),(0,some (ar 3 1 1 rI x3))] [(0,true)]) (qr eW)))
theorem b9{n_a0}{r}(h:cH n n_a0=some r):VQ G 47 [] [vI n_a0] (V.agg [ms 0 1 1 rI r.coefs,vI r.const]) [ar 3 1 1 rI r.coefs]:=by
 unfold cH at h
 refine vq aQ Tryz.func47 rfl fun w X β0 hC hg=> ?_
 refine rq hC [.z (.nat 20)] [2] [(2,V.ref 20 0)] [(20,sc [V.t T.nilS,vI 0])] [(20,true)] ?_
 obtain⟨x1,hx1,h⟩:=bd h
 obtain rfl:=so h
 exact rq hC [oC [] [21] (iO G n hx1),.z (.nat 22)] [3,4] [(3,V.ref 22 0)] [(21,some (ar 3 1 1 rI x1.coefs)),(22,sc [ms 21 1 1 rI x1.coefs,vI x1.const])] [(21,true),(22,true)] (rq hC [] [5,6] [] [(22,sc [ms 21 1 1 rI x1.coefs,vI n_a0])] [] (rq hC [] [7] [] [(20,sc [ms 21 1 1 rI x1.coefs,vI n_a0])] [] (qw (lk hC [.rn 21 0 [] [20,22]] [] [] [(20,sc [ms 0 1 1 rI x1.coefs,vI n_a0]),(22,sc [ms 0 1 1 rI x1.coefs,vI n_a0]),(21,none),(0,some (ar 3 1 1 rI x1.coefs))] [(0,true)]) (qr eW))))
theorem nO{r_a0}{nest}{r}(h:fY n r_a0 nest=some r):VQ G 21 [eL r_a0] [V.ref 0 0,vM aC nest] (ms 1 1 2 aC r.1) [eL r.2,ar 96 1 2 aC r.1]:=by
 unfold fY at h
 refine vq aQ Tryz.func21 rfl fun w X β0 hC hg=> ?_
 refine rq hC [] [4] [] [] [] ?_
 obtain⟨x1,hx1,h⟩:=bd h
 refine rq hC [oC [] [20] (yC G hx1)] [5,7,8] [(5,ms 20 1 2 aC x1)] [(20,some (E.tree jM 0 1 (List.map aC x1) []))] [(20,true)] (rq hC [oN aC x1] [6,9,10] [(6,vI (x1.length:Int))] [] [] (qs (rq hC [] [11,12] [(12,vB (decide ((x1.length:Int)=0)))] [] [] (aS h (fun c1 h=> ?_) (fun c1 h=> ?_)))))
 ·obtain rfl:=so h
  exact rq hC [] [4,13] [(4,ms 20 1 2 aC x1)] [] [] (qw (lk hC [.shd 20,.ren 4 20 1] [4] [(4,ms 1 1 2 aC x1)] [(20,none),(1,some (ar 96 1 2 aC x1))] [(1,true)]) (qr eW))
 ·refine qk ?_
  obtain⟨j2,hj2,h⟩:=yT h
  refine kK (γ:=Nat) (j:=j2) (r:=r) (fun x_ g_=>bA [(5,ms 20 g_ 2 aC x_.2.2)] [(0,E.cells [vM rY x_.1,vI x_.2.1]),(20,ar 96 g_ 2 aC x_.2.2)] [0,20]) ?_ ?_
  ·
   obtain⟨x3,hx3,h⟩:=bd h
   refine rq hC [oC [0] [] (bB G hx3)] [14,15] [(15,vI x3.1)] [(0,sR x3.2)] [(0,true)] (qb (rq hC [] [16,17] [(16,vB (decide (x3.1=0)))] [] [] (aS h (fun c2 h=> ?_) (fun c2 h=> ?_))))
   ·obtain⟨x4,hx4,h⟩:=bd h
    refine qw (lpP hC [.foc 20 21 (0+Int.toNat 0) 0 (aC x4),.shd 21] [] [] [(20,some (E.tree jM 0 1 (List.map aC x1) [((0+Int.toNat 0),0,ms 21 1 2 aB x4.lo)])),(21,some (ar 64 1 2 aB x4.lo))] [(21,true)] (a1 (I1 aC hx4)) (by kernel_rfl)) ?_
    obtain⟨x5,hx5,x6,hx6,x7,hx7,h⟩:=kI h
    refine dk hC bO [oQ (pQ aC hx4),oX aC hx4,oC [0] [] (bB G hx5),oC [] [22] (mN G hx6),.z (.at 5),.z (.fz 22 [25] []),.z (.int 0),oA (aO aB hx7),oQ (b8 (r:=aB) 2 bF x4.lo),oQ (b8 (r:=aB) 2 bF [x6]),oQ (pQ aC hx4),oX aC hx4] (fr 18 12) [] [(0,sR x5.2),(22,none),(21,some (ar 64 2 2 aB x7)),(20,some (E.tree jM 0 1 (List.map aC x1) [((0+Int.toNat 0),0,ms 21 2 2 aB x7)]))] [(0,true),(22,true)] ?_
    obtain⟨x8,hx8,h⟩:=bd h
    exact⟨(x5.2.b,x5.2.p,x8),1,h,((lpP hC [.tre 21 jM 1,.unf 20 21 (aC x4) (List.map aC x8),.len 5 (List.map aC x8).length] [5] [(5,ms 20 1 2 aC x8)] [(21,none),(20,some (E.tree jM 0 1 (List.map aC x8) []))] [] (a5 (Eq.refl (List.map aB x7).length) (Eq.refl jM) (I1 aC hx4) (aBr aC hx8 rfl) (rO aC hx8)) (by kernel_rfl)).trans ((lk hC [.shd 20] [] [] [(20,some (ar 96 1 2 aC x8))] []).trans (lS)))⟩
   ·refine rq hC [] [30,31] [(30,vB (decide (x3.1=1)))] [] [] (aS h (fun c3 h=> ?_) (fun c3 h=> ?_))
    ·refine qw (lk hC [.shd 20] [] [] [(20,some (ar 96 1 2 aC x1))] []) ?_
     obtain⟨x9,hx9,x10,hx10,h⟩:=d7 h
     exact rk hC [oQ (pQ aC hx9),oX aC hx9,.z (.rows (List.map aC x10)),.z (.len 5 (List.map aC x10).length),oQ (str aC hx10),oQ (rO aC hx10)] [5,32,33,34,35,36] [(5,ms 20 1 2 aC x10)] [(20,some (ar 96 1 2 aC x10))] [] ⟨(x3.2.b,x3.2.p,x10),1,h,lS⟩
    ·refine rq hC [] [37,38] [(37,vB (decide (x3.1=2)))] [] [] (aS h (fun c4 h=> ?_) (fun c4 h=> ?_))
     ·obtain⟨x11,hx11,h⟩:=bd h
      refine qw (lpP hC [.foc 20 21 (0+Int.toNat (wr ((x1.length:Int)-1))) 1 (aC x11),.shd 21] [] [] [(20,some (E.tree jM 0 1 (List.map aC x1) [((0+Int.toNat (wr ((x1.length:Int)-1))),1,ms 21 1 2 aB x11.hi)])),(21,some (ar 64 1 2 aB x11.hi))] [(21,true)] (a1 (I1 aC hx11)) (by kernel_rfl)) ?_
      obtain⟨x12,hx12,x13,hx13,x14,hx14,h⟩:=kI h
      refine dk hC bO [oQ (pQ aC hx11),oX aC hx11,oC [] [22] (b9 G hx12),oC [] [23] (b9 G hx13),.z (.at 5),.z (.fz 22 [48] []),.z (.at 5),.z (.fz 23 [49] []),.z (.int 0),oA (aO aB hx14),oQ (b8 (r:=aB) 2 bF x11.hi),oQ (b8 (r:=aB) 2 bF [x12,x13]),oQ (pQ aC hx11),oX aC hx11] (fr 39 15) [] [(22,none),(23,none),(21,some (ar 64 2 2 aB x14)),(20,some (E.tree jM 0 1 (List.map aC x1) [((0+Int.toNat (wr ((x1.length:Int)-1))),1,ms 21 2 2 aB x14)]))] [(22,true),(23,true)] ?_
      obtain⟨x15,hx15,h⟩:=bd h
      exact⟨(x3.2.b,x3.2.p,x15),1,h,((lpP hC [.tre 21 jM 1,.unf 20 21 (aC x11) (List.map aC x15),.len 5 (List.map aC x15).length] [5] [(5,ms 20 1 2 aC x15)] [(21,none),(20,some (E.tree jM 0 1 (List.map aC x15) []))] [] (a5 (Eq.refl (List.map aB x14).length) (Eq.refl jM) (I1 aC hx11) (aBr aC hx15 rfl) (rO aC hx15)) (by kernel_rfl)).trans ((lk hC [.shd 20] [] [] [(20,some (ar 96 1 2 aC x15))] []).trans (lS)))⟩
     ·refine rq hC [] [54,55] [(54,vB (decide (x3.1=3)))] [] [] (aS h (fun c5 h=> ?_) (fun c5 h=> ?_))
      ·refine qw (lk hC [.shd 20] [] [] [(20,some (ar 96 1 2 aC x1))] []) ?_
       obtain⟨x16,hx16,x17,hx17,x18,hx18,h⟩:=kI h
       exact rk hC [oC [] [21] (b9 G hx16),.z (.at 4),.z (.fz 21 [57] []),.z (.int 1),.z (.nat 22),.z (.at 1),.z (.fz 22 [58] []),oQ (pQ aC hx17),oX aC hx17,.z (.rows (List.map aC x18)),.z (.len 5 (List.map aC x18).length),oQ (str aC hx18),oQ (rO aC hx18)] [5,56,57,58,59,60] [(5,ms 20 1 2 aC x18)] [(21,none),(22,none),(20,some (ar 96 1 2 aC x18))] [(21,true),(22,true)] ⟨(x3.2.b,x3.2.p,x18),1,h,lS⟩
      ·refine rq hC [] [61,62] [(61,vB (decide (x3.1=4)))] [] [] (aS h (fun c6 h=> ?_) (fun c6 h=> ?_))
       ·refine qb (qw (lk hC [.shd 20] [] [] [(20,some (ar 96 1 2 aC x1))] []) (bJ (γ:=Nat) h (fun x_ g_=>bA [(5,ms 20 g_ 2 aC x_)] [(0,eL x3.2),(20,ar 96 g_ 2 aC x_)] [0,20]) 1 (lS) ?_))
        rintro again21 x19 g20 h
        refine qs (rq hC [oN aC x19] [63,64,65] [(65,vB (decide ((x19.length:Int)≤4)))] [] [] (aS h (fun c7 h=> ?_) (fun c7 h=> ?_)))
        ·refine qk (qb ?_)
         obtain⟨x22,hx22,x23,hx23,h⟩:=d7 h
         exact rk hC [oQ (pQ aC hx22),oX aC hx22,.z (.int 0),oA (aO aC hx23),oQ (b8 (r:=aC) 2 eQ x19),oQ (b8 (r:=aC) 2 eQ [x22])] [5,66,67,68,69,70,71] [(5,ms 20 (g20+1) 2 aC x23)] [(20,some (ar 96 (g20+1) 2 aC x23))] [] ⟨x23,(g20+1),h,lS⟩
        ·exact dE ⟨(x3.2.b,x3.2.p,x19),g20,h,lS⟩
       ·exact qk ⟨(x3.2.b,x3.2.p,x1),1,h,((lk hC [.shd 20] [] [] [(20,some (ar 96 1 2 aC x1))] []).trans (lS))⟩
  ·rintro⟨x24,x25,x26⟩ g27 h
   subst hj2
   obtain rfl:=so h
   exact rq hC [] [4,72] [(4,ms 20 g27 2 aC x26)] [] [] (qw (lk hC [.ren 4 20 1] [4] [(4,ms 1 1 2 aC x26)] [(1,some (ar 96 1 2 aC x26)),(20,none)] [(1,true)]) (qr eW))
theorem nM{r_a0}{s}{r}(h:fX n r_a0 s=some r):VQ G 22 [eL r_a0] [V.ref 0 0,V.agg (hS s)] (V.agg (hS r.1)) [eL r.2]:=by
 unfold fX at h
 refine vq aQ Tryz.func22 rfl fun w X β0 hC hg=> ?_
 refine rq hC [.z (.b (true)),.z (.nat 20)] [3,4] [(3,V.tp (pY s)),(4,V.ref 20 0)] [(20,sc [vS [],V.t T.nilS,vI 0,vI 0,V.t T.nilS,vI 0,vS [],V.t T.nilS,V.t T.nilS])] [(20,true)] ?_
 obtain⟨x1,hx1,h⟩:=bd h
 refine rq hC [oC [] [21,22,23,24] (yB G hx1),.z (.nat 25)] [5,6,7] [(5,V.ref 25 0)] [(21,some (ar 64 1 2 aB x1.write.subs)),(22,some (ar 3 1 1 rI x1.value.index.coefs)),(23,some (ar 64 1 2 aB x1.value.read.subs)),(24,some (ar 67 1 7 aM x1.value.kids)),(25,sc [vS x1.write.array,ms 21 1 2 aB x1.write.subs,vI x1.value.kind,vI x1.value.num,ms 22 1 1 rI x1.value.index.coefs,vI x1.value.index.const,vS x1.value.read.array,ms 23 1 2 aB x1.value.read.subs,ms 24 1 7 aM x1.value.kids])] [(21,true),(22,true),(23,true),(24,true),(25,true)] ?_
 obtain⟨j2,hj2,h⟩:=yT h
 refine kK (γ:=Nat×Nat) (j:=j2) (r:=r) (fun x_ g_=>bA [(4,V.ref 20 0),(5,V.ref 25 0)] [(0,E.cells [vM rY x_.1,vI x_.2.1]),(20,E.cells [vS [],V.t T.nilS,vI 0,vI 0,V.t T.nilS,vI 0,vS [],V.t T.nilS,V.t T.nilS]),(21,ar 64 g_.1 2 aB x_.2.2.1),(22,ar 3 1 1 rI x1.value.index.coefs),(23,ar 64 1 2 aB x1.value.read.subs),(24,ar 67 g_.2 7 aM x_.2.2.2.1),(25,E.cells [vS x_.2.2.2.2.1,ms 21 g_.1 2 aB x_.2.2.1,vI x_.2.2.2.2.2.1,vI x_.2.2.2.2.2.2,ms 22 1 1 rI x1.value.index.coefs,vI x1.value.index.const,vS x1.value.read.array,ms 23 1 2 aB x1.value.read.subs,ms 24 g_.2 7 aM x_.2.2.2.1])] [0,20,21,22,23,24,25]) ?_ ?_
 ·
  obtain⟨x3,hx3,h⟩:=bd h
  refine rq hC [oC [0] [] (bB G hx3)] [8,9] [(9,vI x3.1)] [(0,sR x3.2)] [(0,true)] (qb (rq hC [] [10,11] [(10,vB (decide (x3.1=0)))] [] [] (aS h (fun c1 h=> ?_) (fun c1 h=> ?_))))
  ·obtain⟨x4,hx4,h⟩:=bd h
   exact rk hC [.z (.int 0),oC [0] [] (gX G hx4)] (fr 12 5) [] [(0,sR x4.2),(25,sc [vS x4.1,ms 21 1 2 aB x1.write.subs,vI x1.value.kind,vI x1.value.num,ms 22 1 1 rI x1.value.index.coefs,vI x1.value.index.const,vS x1.value.read.array,ms 23 1 2 aB x1.value.read.subs,ms 24 1 7 aM x1.value.kids])] [(0,true)] ⟨(x4.2.b,x4.2.p,x1.write.subs,x1.value.kids,x4.1,x1.value.kind,x1.value.num),(1,1),h,lS⟩
  ·refine rq hC [] [17,18] [(17,vB (decide (x3.1=1)))] [] [] (aS h (fun c2 h=> ?_) (fun c2 h=> ?_))
   ·obtain⟨x5,hx5,x6,hx6,x7,hx7,h⟩:=kI h
    exact dk hC bO [oC [] [26] (mN G hx5),oC [] [27] (iO G n hx6),.z (.at 5),.z (.fz 26 [22] []),.z (.at 5),.z (.fz 27 [23] []),.z (.int 0),oA (aO aB hx7),oQ (b8 (r:=aB) 2 bF x1.write.subs),oQ (b8 (r:=aB) 2 bF [x5,x6])] (fr 19 9) [] [(26,none),(27,none),(21,some (ar 64 2 2 aB x7)),(25,sc [vS x1.write.array,ms 21 2 2 aB x7,vI x1.value.kind,vI x1.value.num,ms 22 1 1 rI x1.value.index.coefs,vI x1.value.index.const,vS x1.value.read.array,ms 23 1 2 aB x1.value.read.subs,ms 24 1 7 aM x1.value.kids])] [(26,true),(27,true)] ⟨(x3.2.b,x3.2.p,x7,x1.value.kids,x1.write.array,x1.value.kind,x1.value.num),(2,1),h,lS⟩
   ·refine rq hC [] [28,29] [(28,vB (decide (x3.1=2)))] [] [] (aS h (fun c3 h=> ?_) (fun c3 h=> ?_))
    ·obtain⟨x8,hx8,h⟩:=bd h
     exact rk hC [.z (.int 0),oC [0] [] (aZ G hx8)] (fr 30 5) [] [(0,sR x8.2),(25,sc [vS x1.write.array,ms 21 1 2 aB x1.write.subs,vI x8.1,vI x1.value.num,ms 22 1 1 rI x1.value.index.coefs,vI x1.value.index.const,vS x1.value.read.array,ms 23 1 2 aB x1.value.read.subs,ms 24 1 7 aM x1.value.kids])] [(0,true)] ⟨(x8.2.b,x8.2.p,x1.write.subs,x1.value.kids,x1.write.array,x8.1,x1.value.num),(1,1),h,lS⟩
    ·refine rq hC [] [35,36] [(35,vB (decide (x3.1=3)))] [] [] (aS h (fun c4 h=> ?_) (fun c4 h=> ?_))
     ·obtain⟨x9,hx9,h⟩:=bd h
      exact rk hC [.z (.int 0),oC [0] [] (aZ G hx9)] (fr 37 5) [] [(0,sR x9.2),(25,sc [vS x1.write.array,ms 21 1 2 aB x1.write.subs,vI x1.value.kind,vI x9.1,ms 22 1 1 rI x1.value.index.coefs,vI x1.value.index.const,vS x1.value.read.array,ms 23 1 2 aB x1.value.read.subs,ms 24 1 7 aM x1.value.kids])] [(0,true)] ⟨(x9.2.b,x9.2.p,x1.write.subs,x1.value.kids,x1.write.array,x1.value.kind,x9.1),(1,1),h,lS⟩
     ·refine rq hC [] [42,43] [(42,vB (decide (x3.1=4)))] [] [] (aS h (fun c5 h=> ?_) (fun c5 h=> ?_))
      ·obtain⟨x10,hx10,h⟩:=bd h
       exact rk hC [.z (.int 2),.z (.rows (List.map aM [(⟨1,0,(⟨[],0⟩:Affine),(⟨[],[]⟩:Access),[]⟩:Expr)])),oQ (G3 (⟨1,0,(⟨[],0⟩:Affine),(⟨[],[]⟩:Access),[]⟩:Expr)),oA (aO aM hx10),oQ (b8 (r:=aM) 7 kD x1.value.kids),oQ (b8 (r:=aM) 7 kD [(⟨1,0,(⟨[],0⟩:Affine),(⟨[],[]⟩:Access),[]⟩:Expr)])] (fr 44 8) [] [(24,some (ar 67 2 7 aM x10)),(25,sc [vS x1.write.array,ms 21 1 2 aB x1.write.subs,vI x1.value.kind,vI x1.value.num,ms 22 1 1 rI x1.value.index.coefs,vI x1.value.index.const,vS x1.value.read.array,ms 23 1 2 aB x1.value.read.subs,ms 24 2 7 aM x10])] [] ⟨(x3.2.b,x3.2.p,x1.write.subs,x10,x1.write.array,x1.value.kind,x1.value.num),(1,2),h,lS⟩
      ·exact qk ⟨(x3.2.b,x3.2.p,x1.write.subs,x1.value.kids,x1.write.array,x1.value.kind,x1.value.num),(1,1),h,lS⟩
 ·rintro⟨x11,x12,x13,x14,x15,x16,x17⟩ ⟨g18,g19⟩ h
  subst hj2
  obtain rfl:=so h
  exact rq hC [.z (.at 2),.z (.fz 21 [] [25]),.z (.at 2),.z (.fz 22 [] [25]),.z (.at 2),.z (.fz 23 [] [25]),.z (.at 2),.z (.fz 24 [] [25])] [52] [] [(25,sc [vS x15,vM aB x13,vI x16,vI x17,vM rI x1.value.index.coefs,vI x1.value.index.const,vS x1.value.read.array,vM aB x1.value.read.subs,vM aM x14]),(21,none),(22,none),(23,none),(24,none),(20,sc [vS x15,vM aB x13,vI x16,vI x17,vM rI x1.value.index.coefs,vI x1.value.index.const,vS x1.value.read.array,vM aB x1.value.read.subs,vM aM x14])] [] (qr eW)
theorem G5{r_a0}{p}{r}(h:kM n r_a0 p=some r):VQ G 11 [eL r_a0] [V.ref 0 0,V.agg (dT p)] (V.agg (dT r.1)) [eL r.2]:=by
 unfold kM at h
 refine vq aQ Tryz.func11 rfl fun w X β0 hC hg=> ?_
 refine rq hC [.z (.b (true)),.z (.nat 20)] [3,4] [(3,V.tp (cL p)),(4,V.ref 20 0)] [(20,sc [V.t T.nilS,V.t T.nilS])] [(20,true)] ?_
 obtain⟨x1,hx1,h⟩:=bd h
 refine rq hC [oC [] [21,22] (V5 G hx1),.z (.nat 23)] [5,7,8] [(5,V.ref 23 0)] [(21,some (ar 58 1 2 aL x1.arrays)),(22,some (E.tree jM 2 1 (List.map aE x1.parts) [])),(23,sc [ms 21 1 2 aL x1.arrays,ms 22 1 2 aE x1.parts])] [(21,true),(22,true),(23,true)] (rq hC [oN aE x1.parts] [6,9,10,11] [(6,vI (x1.parts.length:Int))] [] [] ?_)
 obtain⟨j2,hj2,h⟩:=yT h
 refine kK (γ:=Nat) (j:=j2) (r:=r) (fun x_ g_=>bA [(4,V.ref 20 0),(5,V.ref 23 0)] [(0,E.cells [vM rY x_.1,vI x_.2.1]),(20,E.cells [V.t T.nilS,V.t T.nilS]),(21,ar 58 g_ 2 aL x_.2.2.1),(22,ar 43 1 2 aE x_.2.2.2),(23,E.cells [ms 21 g_ 2 aL x_.2.2.1,ms 22 1 2 aE x_.2.2.2])] [0,20,21,22,23]) ?_ ?_
 ·
  obtain⟨x3,hx3,h⟩:=bd h
  refine rq hC [oC [0] [] (bB G hx3)] [12,13] [(13,vI x3.1)] [(0,sR x3.2)] [(0,true)] (qb (rq hC [] [14,15] [(14,vB (decide (x3.1=0)))] [] [] (aS h (fun c1 h=> ?_) (fun c1 h=> ?_))))
  ·obtain⟨x4,hx4,x5,hx5,x6,hx6,h⟩:=kI h
   exact dk hC bO [.z (.int 0),oC [0] [] (gX G hx4),.z (.int 0),oC [0] [] (aZ G hx5),.z (.int 0),.z (.int 0),oA (aO aL hx6),oQ (b8 (r:=aL) 2 mD x1.arrays),oQ (b8 (r:=aL) 2 mD [(⟨x4.1,[x5.1]⟩:Arr)])] (fr 16 13) [] [(0,sR x5.2),(21,some (ar 58 2 2 aL x6)),(23,sc [ms 21 2 2 aL x6,ms 22 1 2 aE x1.parts])] [(0,true),(0,true)] ⟨(x5.2.b,x5.2.p,x6,x1.parts),2,h,((lk hC [.shd 22] [] [] [(22,some (ar 43 1 2 aE x1.parts))] []).trans (lS))⟩
  ·refine rq hC [] [29,30] [(29,vB (decide (x3.1=1)))] [] [] (aS h (fun c2 h=> ?_) (fun c2 h=> ?_))
   ·refine rq hC [oN aL x1.arrays] (fr 31 4) [(34,vB (decide ((0:Int)<(x1.arrays.length:Int))))] [] [] (aS h (fun c3 h=> ?_) (fun c3 h=> ?_))
    ·obtain⟨x7,hx7,x8,hx8,x9,hx9,h⟩:=kI h
     exact dk hC bO [.z (.int 0),oC [0] [] (aZ G hx7),.z (.int 0),oQ (pQ aL hx8),oX aL hx8,.z (.rows (List.map aL x9)),oQ (str aL hx9)] (fr 35 8) [] [(0,sR x7.2),(21,some (ar 58 1 2 aL x9))] [(0,true)] ⟨(x7.2.b,x7.2.p,x9,x1.parts),1,h,((lpP hC [.lenc 23 0 (List.map aL x9).length] [] [] [(23,sc [ms 21 1 2 aL x9,ms 22 1 2 aE x1.parts])] [] (a1 (rO aL hx9)) (by kernel_rfl)).trans ((lk hC [.shd 22] [] [] [(22,some (ar 43 1 2 aE x1.parts))] []).trans (lS)))⟩
    ·exact qk ⟨(x3.2.b,x3.2.p,x1.arrays,x1.parts),1,h,((lk hC [.shd 22] [] [] [(22,some (ar 43 1 2 aE x1.parts))] []).trans (lS))⟩
   ·refine rq hC [] [43,44] [(43,vB (decide (x3.1=2)))] [] [] (aS h (fun c4 h=> ?_) (fun c4 h=> ?_))
    ·refine rq hC [] [45,46] [(46,vB (decide ((0:Int)<(x1.parts.length:Int))))] [] [] (aS h (fun c5 h=> ?_) (fun c5 h=> ?_))
     ·refine qw (lk hC [.shd 22] [] [] [(22,some (ar 43 1 2 aE x1.parts))] []) ?_
      obtain⟨x10,hx10,x11,hx11,x12,hx12,h⟩:=kI h
      obtain⟨x13,hx13,x14,hx14,h⟩:=d7 h
      exact dk hC bO [oQ (pQ aE hx10),oX aE hx10,oC [0] [24] (nO G hx11),.z (.at 5),.z (.fz 24 [57] []),oC [0] [25] (nO G hx12),.z (.at 4),.z (.fz 25 [58] []),oC [0] [26] (nO G hx13),.z (.at 1),.z (.fz 26 [59] []),oQ (pQ aE hx10),oX aE hx10,.z (.rows (List.map aE x14)),oQ (str aE hx14)] (fr 47 15) [] [(24,none),(0,sR x13.2),(25,none),(26,none),(22,some (ar 43 1 2 aE x14))] [(0,true),(24,true),(0,true),(25,true),(0,true),(26,true)] ⟨(x13.2.b,x13.2.p,x1.arrays,x14),1,h,((lpP hC [.lenc 23 1 (List.map aE x14).length] [] [] [(23,sc [ms 21 1 2 aL x1.arrays,ms 22 1 2 aE x14])] [] (a1 (rO aE hx14)) (by kernel_rfl)).trans (lS))⟩
     ·exact qk ⟨(x3.2.b,x3.2.p,x1.arrays,x1.parts),1,h,((lk hC [.shd 22] [] [] [(22,some (ar 43 1 2 aE x1.parts))] []).trans (lS))⟩
    ·refine rq hC [] [62,63] [(62,vB (decide (x3.1=3)))] [] [] (aS h (fun c6 h=> ?_) (fun c6 h=> ?_))
     ·refine vj h (fun x_=>bA [(0,V.ref 0 0),(4,V.ref 20 0),(5,V.ref 23 0),(6,vI (x1.parts.length:Int)),(76,vB x_)] [(0,eL x3.2),(20,E.cells [V.t T.nilS,V.t T.nilS]),(21,ar 58 1 2 aL x1.arrays),(22,E.tree jM 2 1 (List.map aE x1.parts) []),(23,E.cells [ms 21 1 2 aL x1.arrays,ms 22 1 2 aE x1.parts])] [0,20,21,22,23]) (fun j15 h=> ?_) (fun x17 h=> ?_)
      ·
       refine aT h (fun c7 h=> ?_) (fun c7 h=> ?_)
       ·exact rk hC (rF 10 c7) (fr 64 13) [(76,vB false)] [] [] (lE h)
       ·obtain⟨x16,hx16,h⟩:=bd h
        exact qw (lpP hC [.foc 22 24 (0+Int.toNat (wr ((x1.parts.length:Int)-1))) 1 (aE x16),.shd 24] [] [] [(22,some (E.tree jM 2 1 (List.map aE x1.parts) [((0+Int.toNat (wr ((x1.parts.length:Int)-1))),1,ms 24 1 9 aR x16.body)])),(24,some (ar 69 1 9 aR x16.body))] [(24,true)] (a1 (I1 aE hx16)) (by kernel_rfl)) (rk hC (rT 5 c7++[oQ (pQ aE hx16),oT c7,oT c7,oX aE hx16,oT c7,oN aR x16.body,oT c7,oT c7]) (fr 64 13) [(76,vB (decide ((0:Int)<(x16.body.length:Int))))] [] [] ⟨decide ((0:Int)<(x16.body.length:Int)),h,((lpP hC [.tre 24 jM 3,.unf 22 24 (aE x16) (List.map aE x1.parts)] [] [] [(24,none),(22,some (E.tree jM 2 1 (List.map aE x1.parts) []))] [] (a4 (Eq.refl (List.map aR x16.body).length) (Eq.refl jM) (I1 aE hx16) (aBs aE hx16 rfl)) (by kernel_rfl)).trans (lS))⟩)
      ·refine aS h (fun c8 h=> ?_) (fun c8 h=> ?_)
       ·obtain⟨x18,hx18,h⟩:=bd h
        refine qw (lpP hC [.foc 22 24 (0+Int.toNat (wr ((x1.parts.length:Int)-1))) 1 (aE x18),.shd 24] [] [] [(22,some (E.tree jM 2 1 (List.map aE x1.parts) [((0+Int.toNat (wr ((x1.parts.length:Int)-1))),1,ms 24 1 9 aR x18.body)])),(24,some (ar 69 1 9 aR x18.body))] [(24,true)] (a1 (I1 aE hx18)) (by kernel_rfl)) ?_
        obtain⟨x19,hx19,x20,hx20,x21,hx21,h⟩:=kI h
        obtain⟨x22,hx22,x23,hx23,h⟩:=d7 h
        refine dk hC bO [oQ (pQ aE hx18),oX aE hx18,oQ (pQ aE hx18),oX aE hx18,oQ (pQ aR hx19),oX aR hx19,oC [0] [] (nM G hx20),oC [0] [] (nM G hx21),oC [0] [] (nM G hx22),oQ (pQ aR hx19),oX aR hx19,.z (.rows (List.map aR x23)),oQ (str aR hx23)] (fr 77 23) [] [(0,sR x22.2),(24,some (ar 69 1 9 aR x23))] [(0,true),(0,true),(0,true)] ?_
        obtain⟨x24,hx24,h⟩:=bd h
        exact⟨(x22.2.b,x22.2.p,x1.arrays,x24),1,h,((lpP hC [.tre 24 jM 3,.unf 22 24 (aE x18) (List.map aE x24),.lenc 23 1 (List.map aE x24).length] [] [] [(24,none),(22,some (E.tree jM 2 1 (List.map aE x24) [])),(23,sc [ms 21 1 2 aL x1.arrays,ms 22 1 2 aE x24])] [] (a5 (rO aR hx23) (Eq.refl jM) (I1 aE hx18) (aBr aE hx24 rfl) (rO aE hx24)) (by kernel_rfl)).trans ((lk hC [.shd 22] [] [] [(22,some (ar 43 1 2 aE x24))] []).trans (lS)))⟩
       ·exact qk ⟨(x3.2.b,x3.2.p,x1.arrays,x1.parts),1,h,((lk hC [.shd 22] [] [] [(22,some (ar 43 1 2 aE x1.parts))] []).trans (lS))⟩
     ·refine rq hC [] [100,101] [(100,vB (decide (x3.1=4)))] [] [] (aS h (fun c9 h=> ?_) (fun c9 h=> ?_))
      ·refine rq hC [] [102,103] [(103,vB (decide ((0:Int)<(x1.parts.length:Int))))] [] [] (aS h (fun c10 h=> ?_) (fun c10 h=> ?_))
       ·refine qw (lk hC [.shd 22] [] [] [(22,some (ar 43 1 2 aE x1.parts))] []) ?_
        obtain⟨x25,hx25,x26,hx26,h⟩:=d7 h
        exact rk hC [oQ (pQ aE hx25),oX aE hx25,.z (.rows (List.map aE x26)),.z (.lenc 23 1 (List.map aE x26).length),oQ (str aE hx26),oQ (rO aE hx26)] (fr 104 6) [] [(22,some (ar 43 1 2 aE x26)),(23,sc [ms 21 1 2 aL x1.arrays,ms 22 1 2 aE x26])] [] ⟨(x3.2.b,x3.2.p,x1.arrays,x26),1,h,lS⟩
       ·exact qk ⟨(x3.2.b,x3.2.p,x1.arrays,x1.parts),1,h,((lk hC [.shd 22] [] [] [(22,some (ar 43 1 2 aE x1.parts))] []).trans (lS))⟩
      ·exact qk ⟨(x3.2.b,x3.2.p,x1.arrays,x1.parts),1,h,((lk hC [.shd 22] [] [] [(22,some (ar 43 1 2 aE x1.parts))] []).trans (lS))⟩
 ·rintro⟨x27,x28,x29,x30⟩ g31 h
  subst hj2
  obtain rfl:=so h
  exact rq hC [.z (.at 2),.z (.fz 21 [] [23]),.z (.at 2),.z (.fz 22 [] [23])] [110] [] [(23,sc [vM aL x29,vM aE x30]),(21,none),(22,none),(20,sc [vM aL x29,vM aE x30])] [] (qr eW)
theorem nL(G:GS)(n:Nat){r:(List Arr)}(h:l4 n=some r):PQ G 82 [] (vM aL r):=by
 unfold l4 at h
 refine pq aQ Tryz.func82 rfl fun w X hC=> ?_
 obtain rfl:=so h
 exact rq hC [] [0] [] [] [] (rq hC [.z (.int 0),.z (.int 0),.z (.int 0),.z (.int 0)] (fr 0 8) [(0,vM aL [(⟨[65],[6]⟩:Arr),(⟨[66],[4,5]⟩:Arr),(⟨[67],[3]⟩:Arr)])] [] [] (qr eR))
theorem nQ(G:GS): ∀(n:Nat) (n_a0:Int) {r:(List UInt8)} (h:s_l16Dec n n_a0=some r),PQ G 78 [vI n_a0] (vS r):=by
 intro n
 induction n with
 |zero=>intro n_a0 r h;rw [s_l16Dec.eq_def] at h;cases h
 |succ n ih=>
  intro n_a0 r h
  rw [s_l16Dec.eq_def] at h;dsimp only at h
  refine pq aQ Tryz.func78 rfl fun w X hC=> ?_
  refine rq hC [] [2] [] [] [] (qs (rq hC [] [4,5] [(5,vB (decide (n_a0<(-9223372036854775807))))] [] [] (aS h (fun c1 h=> ?_) (fun c1 h=> ?_))))
  ·obtain rfl:=so h
   exact rq hC [] [2] [(2,vS [45,57,50,50,51,51,55,50,48,51,54,56,53,52,55,55,53,56,48,56])] [] [] (qr eR)
  ·refine qk (qs (rq hC [] [6,7] [(7,vB (decide (n_a0<0)))] [] [] (aS h (fun c2 h=> ?_) (fun c2 h=> ?_))))
   ·obtain⟨x1,hx1,x2,hx2,h⟩:=d7 h
    obtain rfl:=so h
    exact rq hC [oV (ih (wr (0-n_a0)) hx1),oS hx2] [2,8,9,10,11] [(2,vS x2)] [] [] (qr eR)
   ·refine qk (rq hC [] [3] [(3,vS [])] [] [] (qs (qb (jH h (fun x_=>bA [(0,vI x_.1),(3,vS x_.2)] [] []) lS ?_))))
    rintro again5 ⟨x3,x4⟩ h
    refine qs (rq hC [] [12,13] [(13,vB (decide ((9:Int)<x3)))] [] [] (aS h (fun c3 h=> ?_) (fun c3 h=> ?_)))
    ·refine qk (qb ?_)
     obtain⟨x6,hx6,h⟩:=bd h
     exact rq hC [.z (.y (UInt8.ofInt (wr (48+(Int.tmod x3 10))))),.z (.int 0),.z (.str [UInt8.ofInt (wr (48+(Int.tmod x3 10)))]),oQ (show(10:Int)≠0 by decide),oQ (Eq.refl (UInt8.ofInt (wr (48+(Int.tmod x3 10))))),oQ (Eq.refl (List.map gY [UInt8.ofInt (wr (48+(Int.tmod x3 10)))])),oS hx6] [3,14,15,16,17,18,19,20,21] [(3,vS x6)] [] [] (rk hC [oQ (show(10:Int)≠0 by decide)] [0,22,23] [(0,vI (wr (Int.tdiv x3 10)))] [] [] (lE h))
    ·refine dE ?_
     obtain⟨x7,hx7,h⟩:=bd h
     obtain rfl:=so h
     exact rq hC [.z (.y (UInt8.ofInt (wr (48+x3)))),.z (.int 0),.z (.str [UInt8.ofInt (wr (48+x3))]),oQ (Eq.refl (UInt8.ofInt (wr (48+x3)))),oQ (Eq.refl (List.map gY [UInt8.ofInt (wr (48+x3))])),oS hx7] [2,24,25,26,27,28,29,30] [(2,vS x7)] [] [] (qr eR)
theorem yD{n_a0}{name}{r}(h:rH n n_a0 name=some r):PQ G 138 [vI n_a0,vS name] (vS r):=by
 unfold rH at h
 refine pq aQ Tryz.func138 rfl fun w X hC=> ?_
 refine rq hC [] [4] [] [] [] (rq hC [] [5] [(5,vS [43])] [] [] (vj h (fun x_=>bA [(0,vI x_.1),(1,vS name),(5,vS x_.2)] [] []) (fun j1 h=> ?_) ?_))
 ·
  refine rq hC [] [6,7] [(7,vB (decide (n_a0<0)))] [] [] (aS h (fun c1 h=> ?_) (fun c1 h=> ?_))
  ·exact rq hC [] [5] [(5,vS [45])] [] [] (rk hC [] [0,8,9] [(0,vI (wr (0-n_a0)))] [] [] (lE h))
  ·exact qk (lE h)
 ·rintro⟨x2,x3⟩ h
  refine qs (rq hC [] [10,11] [(11,vB (decide (name=[])))] [] [] (aS h (fun c2 h=> ?_) (fun c2 h=> ?_)))
  ·obtain⟨x4,hx4,x5,hx5,h⟩:=d7 h
   obtain rfl:=so h
   exact rq hC [oV (nQ G n x2 hx4),oS hx5] [4,12,13,14,15] [(4,vS x5)] [] [] (qr eR)
  ·refine qk (qs (rq hC [] [16,17] [(17,vB (decide (x2=1)))] [] [] (aS h (fun c3 h=> ?_) (fun c3 h=> ?_))))
   ·obtain⟨x6,hx6,h⟩:=bd h
    obtain rfl:=so h
    exact rq hC [oS hx6] [4,18,19,20] [(4,vS x6)] [] [] (qr eR)
   ·refine qk ?_
    obtain⟨x7,hx7,x8,hx8,x9,hx9,h⟩:=kI h
    obtain⟨x10,hx10,h⟩:=bd h
    obtain rfl:=so h
    exact rq hC [oV (nQ G n x2 hx7),oS hx8,oS hx9,oS hx10] [4,21,22,23,24,25,26,27] [(4,vS x10)] [] [] (qr eR)
theorem qV{a}{r}(h:oZ n a=some r):PQ G 114 [V.agg (bC a)] (vS r):=by
 unfold oZ at h
 refine pq aQ Tryz.func114 rfl fun w X hC=> ?_
 refine rq hC [.z (.b (true))] [1,2] [(1,V.tp (bI a))] [] [] (rq hC [] [3] [(3,vS [])] [] [] (qs (rq hC [] [4] [(4,vI 0)] [] [] (qb (jH h (fun x_=>bA [(1,V.tp (bI a)),(3,vS x_.1),(4,vI x_.2)] [] []) lS ?_)))))
 rintro again3 ⟨x1,x2⟩ h
 refine qs (rq hC [oN rI a.coefs] (fr 5 5) [(9,vB (decide (x2<(a.coefs.length:Int))))] [] [] (aS h (fun c1 h=> ?_) (fun c1 h=> ?_)))
 ·refine qk (vj h (fun x_=>bA [(1,V.tp (bI a)),(3,vS x_),(4,vI x2)] [] []) (fun j4 h=> ?_) (fun x9 h=> ?_))
  ·
   refine qb ?_
   obtain⟨x5,hx5,h⟩:=bd h
   refine rq hC [oR rI hx5] (fr 12 6) [(17,vB (!decide (x5=0)))] [] [] (aS h (fun c2 h=> ?_) (fun c2 h=> ?_))
   ·obtain⟨x6,hx6,x7,hx7,x8,hx8,h⟩:=kI h
    exact dk hC bO [oR rI hx5,oS hx6,oV (yD G hx7),oS hx8] [3,18,19,20,21,22,23,24,25,26,27,28,29] [(3,vS x8)] [] [] (lE h)
   ·exact qk (lE h)
  ·exact rk hC [] [4,10,11] [(4,vI (wr (x2+1)))] [] [] (lE h)
 ·refine dE (vj h (fun x_=>bA [(3,vS x_)] [] []) (fun j10 h=> ?_) (fun x13 h=> ?_))
  ·
   refine rq hC [] [30,31,32] [(32,vB (!decide (a.const=0)))] [] [] (aS h (fun c3 h=> ?_) (fun c3 h=> ?_))
   ·obtain⟨x11,hx11,x12,hx12,h⟩:=d7 h
    exact rk hC [oV (yD G hx11),oS hx12] [3,33,34,35,36,37] [(3,vS x12)] [] [] (lE h)
   ·exact qk (lE h)
  ·refine qs (rq hC [] [38,39] [(39,vB (decide (x13=[])))] [] [] (aS h (fun c4 h=> ?_) (fun c4 h=> ?_)))
   ·obtain rfl:=so h
    exact rq hC [] [2] [(2,vS [48])] [] [] (qr eR)
   ·refine qk (qs ?_)
    obtain⟨x14,hx14,h⟩:=bd h
    refine rq hC [oS hx14] [40,41,42] [(42,vB (decide (x14=[43])))] [] [] (aS h (fun c5 h=> ?_) (fun c5 h=> ?_))
    ·obtain⟨x15,hx15,h⟩:=bd h
     obtain rfl:=so h
     exact rq hC [oS hx15] [2,43,44] [(2,vS x15)] [] [] (qr eR)
    ·obtain rfl:=so h
     exact qk (rq hC [] [2,45] [(2,vS x13)] [] [] (qr eR))
theorem lC{list}{r}(h:gJ n list=some r):PQ G 113 [vM aB list] (vS r):=by
 unfold gJ at h
 refine pq aQ Tryz.func113 rfl fun w X hC=> ?_
 refine rq hC [] [2] [] [] [] (rq hC [] [3] [(3,vS [])] [] [] (qs (rq hC [] [4] [(4,vI 0)] [] [] (qb (jH h (fun x_=>bA [(0,vM aB list),(3,vS x_.1),(4,vI x_.2)] [] []) lS ?_)))))
 rintro again3 ⟨x1,x2⟩ h
 refine qs (rq hC [oN aB list] (fr 5 4) [(8,vB (decide (x2<(list.length:Int))))] [] [] (aS h (fun c1 h=> ?_) (fun c1 h=> ?_)))
 ·refine qk (qs (qb (vj h (fun x_=>bA [(0,vM aB list),(3,vS x_),(4,vI x2)] [] []) (fun j4 h=> ?_) (fun x6 h=> ?_))))
  ·
   refine rq hC [] [11,12] [(12,vB (decide ((0:Int)<x2)))] [] [] (aS h (fun c2 h=> ?_) (fun c2 h=> ?_))
   ·obtain⟨x5,hx5,h⟩:=bd h
    exact rk hC [oS hx5] [3,13,14] [(3,vS x5)] [] [] (lE h)
   ·exact qk (lE h)
  ·obtain⟨x7,hx7,x8,hx8,x9,hx9,h⟩:=kI h
   exact rk hC [oR aB hx7,oV (qV G hx8),oS hx9] [3,15,16,17,18,19,20,21] [(3,vS x9)] [] [] (rk hC [] [4,9,10] [(4,vI (wr (x2+1)))] [] [] (lE h))
 ·obtain rfl:=so h
  exact dE (rq hC [] [2,22] [(2,vS x1)] [] [] (qr eR))
theorem iN{a}{r}(h:eY n a=some r):PQ G 80 [V.agg (dV a)] (vS r):=by
 unfold eY at h
 refine pq aQ Tryz.func80 rfl fun w X hC=> ?_
 refine rq hC [.z (.b (true))] [1,2] [(1,V.tp (dU a))] [] [] (qs ?_)
 obtain⟨x1,hx1,x2,hx2,x3,hx3,h⟩:=kI h
 obtain⟨x4,hx4,h⟩:=bd h
 obtain rfl:=so h
 exact dk hC bO [oS hx1,oV (lC G hx2),oS hx3,oS hx4] (fr 2 9) [(2,vS x4)] [] [] (qr eR)
theorem xX(G:GS): ∀(n:Nat) (e:Expr) {r:(List UInt8)} (h:s_l3Text n e=some r),PQ G 81 [V.agg (fV e)] (vS r):=by
 intro n
 induction n with
 |zero=>intro e r h;rw [s_l3Text.eq_def] at h;cases h
 |succ n ih=>
  intro e r h
  rw [s_l3Text.eq_def] at h;dsimp only at h
  refine pq aQ Tryz.func81 rfl fun w X hC=> ?_
  refine rq hC [.z (.b (true))] [1,2] [(1,V.tp (hA e))] [] [] (qs (rq hC [] [3,4] [(4,vI e.kind)] [] [] (qb (rq hC [] [5,6] [(5,vB (decide (e.kind=1)))] [] [] (aS h (fun c1 h=> ?_) (fun c1 h=> ?_))))))
  ·obtain⟨x1,hx1,h⟩:=bd h
   obtain rfl:=so h
   exact rq hC [oV (nQ G n e.num hx1)] [2,7,8,9] [(2,vS x1)] [] [] (qr eR)
  ·refine rq hC [] [10,11] [(10,vB (decide (e.kind=2)))] [] [] (aS h (fun c2 h=> ?_) (fun c2 h=> ?_))
   ·obtain⟨x2,hx2,x3,hx3,x4,hx4,h⟩:=kI h
    obtain rfl:=so h
    exact rq hC [oV (qV G hx2),oS hx3,oS hx4] [2,12,13,14,15,16] [(2,vS x4)] [] [] (qr eR)
   ·refine rq hC [] [17,18] [(17,vB (decide (e.kind=3)))] [] [] (aS h (fun c3 h=> ?_) (fun c3 h=> ?_))
    ·obtain⟨x5,hx5,h⟩:=bd h
     obtain rfl:=so h
     exact rq hC [oV (iN G hx5)] [2,19,20,21] [(2,vS x5)] [] [] (qr eR)
    ·refine qk (qs ?_)
     obtain⟨x6,hx6,x7,hx7,x8,hx8,h⟩:=kI h
     obtain⟨x9,hx9,x10,hx10,x11,hx11,h⟩:=kI h
     obtain⟨x12,hx12,x13,hx13,x14,hx14,h⟩:=kI h
     obtain rfl:=so h
     exact dk hC bO [.z (.row (fA x6)),oQ (iU aM hx6 (dY x6)),oV (ih x6 hx7),oS hx8,oS hx9,oS hx10,.z (.row (fA x11)),oQ (iU aM hx11 (dY x11)),oV (ih x11 hx12),oS hx13,oS hx14] [2,22,23,24,25,26,27,28,29,30,31,32,33,34,35,36,37,38,39,40,41,42,43] [(2,vS x14)] [] [] (qr eR)
theorem xY{kind}{r}(h:oP n kind=some r):PQ G 122 [vI kind] (vI r):=by
 unfold oP at h
 refine pq aQ Tryz.func122 rfl fun w X hC=> ?_
 refine rq hC [] [2] [] [] [] (qs (rq hC [] [3] [(3,vI kind)] [] [] (qb (vj h (fun x_=>bA [(3,vI kind),(4,vB x_)] [] []) (fun j1 h=> ?_) (fun x2 h=> ?_)))))
 ·
  refine rq hC [] [4,5] [(4,vB (decide (kind=1)))] [] [] (aS h (fun c1 h=> ?_) (fun c1 h=> ?_))
  ·exact qk (lE h)
  ·refine rq hC [] [4,6] [(4,vB (decide (kind=2)))] [] [] (aS h (fun c2 h=> ?_) (fun c2 h=> ?_))
   ·exact qk (lE h)
   ·exact rk hC [] [4,7] [(4,vB (decide (kind=3)))] [] [] (lE h)
 ·refine aS h (fun c3 h=> ?_) (fun c3 h=> ?_)
  ·obtain rfl:=so h
   exact rq hC [] [2] [(2,vI 0)] [] [] (qr eR)
  ·refine vj h (fun x_=>bA [(8,vB x_)] [] []) (fun j3 h=> ?_) (fun x4 h=> ?_)
   ·
    refine rq hC [] [8,9] [(8,vB (decide (kind=4)))] [] [] (aS h (fun c4 h=> ?_) (fun c4 h=> ?_))
    ·exact qk (lE h)
    ·refine rq hC [] [8,10] [(8,vB (decide (kind=5)))] [] [] (aS h (fun c5 h=> ?_) (fun c5 h=> ?_))
     ·exact qk (lE h)
     ·exact rk hC [] [8,11] [(8,vB (decide (kind=6)))] [] [] (lE h)
   ·refine aS h (fun c6 h=> ?_) (fun c6 h=> ?_)
    ·obtain rfl:=so h
     exact rq hC [] [2] [(2,vI 2)] [] [] (qr eR)
    ·obtain rfl:=so h
     exact qk (rq hC [] [2] [(2,vI (-1))] [] [] (qr eR))
theorem jG{a}{r}(h:iA n a=some r):PQ G 142 [V.agg (dV a)] (vB r):=by
 unfold iA at h
 refine pq aQ Tryz.func142 rfl fun w X hC=> ?_
 refine rq hC [.z (.b (true))] [1,2] [(1,V.tp (dU a))] [] [] (vj h (fun x_=>bA [(2,vB x_)] [] []) (fun j1 h=> ?_) (fun x2 h=> ?_))
 ·
  refine aT h (fun c1 h=> ?_) (fun c1 h=> ?_)
  ·exact rk hC (rF 5 c1) (fr 2 10) [(2,vB false)] [] [] (lE h)
  ·exact rk hC (rT 3 c1++[oN aB a.subs,oT c1,oT c1]) (fr 2 10) [(2,vB (decide ((a.subs.length:Int)=0)))] [] [] (lE h)
 ·obtain rfl:=so h
  exact qr eR
theorem iL{a}{r}(h:kO n a=some r):PQ G 143 [V.agg (bC a)] (vB r):=by
 unfold kO at h
 refine pq aQ Tryz.func143 rfl fun w X hC=> ?_
 refine rq hC [.z (.b (true))] [1,2] [(1,V.tp (bI a))] [] [] (vj h (fun x_=>bA [(2,vB x_)] [] []) (fun j1 h=> ?_) (fun x2 h=> ?_))
 ·
  refine aT h (fun c1 h=> ?_) (fun c1 h=> ?_)
  ·exact rk hC ([oN rI a.coefs]++rF 4 c1) (fr 2 10) [(2,vB false)] [] [] (lE h)
  ·exact rk hC ([oN rI a.coefs]++rT 4 c1) (fr 2 10) [(2,vB (decide (a.const=0)))] [] [] (lE h)
 ·obtain rfl:=so h
  exact qr eR
theorem nP{n_a0}{most}{r}(h:fZ n n_a0 most=some r):PQ G 92 [vI n_a0,vI most] (vB r):=by
 unfold fZ at h
 refine pq aQ Tryz.func92 rfl fun w X hC=> ?_
 refine rq hC [] [4] [] [] [] (vj h (fun x_=>bA [(4,vB x_)] [] []) (fun j1 h=> ?_) (fun x2 h=> ?_))
 ·
  refine aT h (fun c1 h=> ?_) (fun c1 h=> ?_)
  ·exact rk hC (rF 4 c1) (fr 4 10) [(4,vB false)] [] [] (lE h)
  ·exact rk hC (rT 4 c1) (fr 4 10) [(4,vB (decide (n_a0≤most)))] [] [] (lE h)
 ·obtain rfl:=so h
  exact qr eR
theorem cV{a}{r}(h:dA n a=some r):PQ G 120 [V.agg (bC a)] (vB r):=by
 unfold dA at h
 refine pq aQ Tryz.func120 rfl fun w X hC=> ?_
 refine rq hC [.z (.b (true))] [1,2] [(1,V.tp (bI a))] [] [] (qs (rq hC [] [3] [(3,vI 0)] [] [] (qb (jH h (fun x_=>bA [(1,V.tp (bI a)),(3,vI x_)] [] []) lS ?_))))
 rintro again2 x1 h
 refine qs (rq hC [oN rI a.coefs] (fr 4 5) [(8,vB (decide (x1<(a.coefs.length:Int))))] [] [] (aS h (fun c1 h=> ?_) (fun c1 h=> ?_)))
 ·refine qk (qs (qb ?_))
  obtain⟨x3,hx3,x4,hx4,h⟩:=d7 h
  refine rq hC [oR rI hx3,oV (nP G hx4)] (fr 11 7) [(17,vB (!x4))] [] [] (aS h (fun c2 h=> ?_) (fun c2 h=> ?_))
  ·obtain rfl:=so h
   exact rq hC [] [2] [(2,vB false)] [] [] (qr eR)
  ·exact qk (rk hC [] [3,9,10] [(3,vI (wr (x1+1)))] [] [] (lE h))
 ·refine dE (vj h (fun x_=>bA [(2,vB x_)] [] []) (fun j5 h=> ?_) (fun x7 h=> ?_))
  ·
   refine aT h (fun c3 h=> ?_) (fun c3 h=> ?_)
   ·exact rk hC ([oN rI a.coefs]++rF 4 c3) [2,18,19,20,21,22,23,24,25,26] [(2,vB false)] [] [] (lE h)
   ·obtain⟨x6,hx6,h⟩:=bd h
    exact rk hC ([oN rI a.coefs]++rT 3 c3++[oV (nP G hx6),oT c3]) [2,18,19,20,21,22,23,24,25,26] [(2,vB x6)] [] [] (lE h)
  ·obtain rfl:=so h
   exact qr eR
theorem pB{a}{r}(h:iC n a=some r):PQ G 121 [V.agg (bC a)] (vI r):=by
 unfold iC at h
 refine pq aQ Tryz.func121 rfl fun w X hC=> ?_
 refine rq hC [.z (.b (true))] [1,2] [(1,V.tp (bI a))] [] [] (rq hC [] [3] [(3,vI 0)] [] [] (qs (rq hC [] [4] [(4,vI 0)] [] [] (qb (jH h (fun x_=>bA [(1,V.tp (bI a)),(3,vI x_.1),(4,vI x_.2)] [] []) lS ?_)))))
 rintro again3 ⟨x1,x2⟩ h
 refine qs (rq hC [oN rI a.coefs] (fr 5 5) [(9,vB (decide (x2<(a.coefs.length:Int))))] [] [] (aS h (fun c1 h=> ?_) (fun c1 h=> ?_)))
 ·refine qk (vj h (fun x_=>bA [(1,V.tp (bI a)),(3,vI x_),(4,vI x2)] [] []) (fun j4 h=> ?_) (fun x6 h=> ?_))
  ·
   refine qb ?_
   obtain⟨x5,hx5,h⟩:=bd h
   refine rq hC [oR rI hx5] (fr 12 6) [(17,vB (!decide (x5=0)))] [] [] (aS h (fun c2 h=> ?_) (fun c2 h=> ?_))
   ·exact rk hC [] [3,18,19] [(3,vI (wr (x2+1)))] [] [] (lE h)
   ·exact qk (lE h)
  ·exact rk hC [] [4,10,11] [(4,vI (wr (x2+1)))] [] [] (lE h)
 ·obtain rfl:=so h
  exact dE (rq hC [] [2,20] [(2,vI x1)] [] [] (qr eR))
theorem nN{a}{depth}{r}(h:iB n a depth=some r):PQ G 87 [V.agg (dV a),vI depth] (vB r):=by
 unfold iB at h
 refine pq aQ Tryz.func87 rfl fun w X hC=> ?_
 refine rq hC [.z (.b (true))] [2,4] [(2,V.tp (dU a))] [] [] (qs (rq hC [] [5] [(5,vI 0)] [] [] (qb (jH h (fun x_=>bA [(1,vI depth),(2,V.tp (dU a)),(5,vI x_)] [] []) lS ?_))))
 rintro again2 x1 h
 refine qs (rq hC [oN aB a.subs] (fr 6 5) [(10,vB (decide (x1<(a.subs.length:Int))))] [] [] (aS h (fun c1 h=> ?_) (fun c1 h=> ?_)))
 ·refine qk (qs (qb (vj h (fun x_=>bA [(1,vI depth),(2,V.tp (dU a)),(5,vI x1),(29,vB x_)] [] []) (fun j3 h=> ?_) (fun x7 h=> ?_))))
  ·
   obtain⟨x4,hx4,x5,hx5,h⟩:=d7 h
   refine aT h (fun c2 h=> ?_) (fun c2 h=> ?_)
   ·obtain⟨x6,hx6,h⟩:=bd h
    exact rk hC ([oR aB hx4,oV (cV G hx5)]++rF 4 c2++[oR aB hx4,oF c2,oF c2,oV (pB G hx6)]++rF 3 c2) (fr 13 17) [(29,vB (decide (depth<x6)))] [] [] (lE h)
   ·exact rk hC ([oR aB hx4,oV (cV G hx5)]++rT 9 c2) (fr 13 17) [(29,vB true)] [] [] (lE h)
  ·refine aS h (fun c3 h=> ?_) (fun c3 h=> ?_)
   ·obtain rfl:=so h
    exact rq hC [] [4] [(4,vB false)] [] [] (qr eR)
   ·exact qk (rk hC [] [5,11,12] [(5,vI (wr (x1+1)))] [] [] (lE h))
 ·refine dE (vj h (fun x_=>bA [(4,vB x_)] [] []) (fun j8 h=> ?_) (fun x9 h=> ?_))
  ·
   refine aT h (fun c4 h=> ?_) (fun c4 h=> ?_)
   ·exact rk hC (rF 4 c4++sF 14) [4,30,31,32,33,34,35,36,37,38,39,40,41,42,43,44,45,46,47,48,49,50,51,52,53,54,55] [(4,vB false)] [] [] (lE h)
   ·refine aT h (fun c5 h=> ?_) (fun c5 h=> ?_)
    ·exact rk hC (rT 4 c4++rF 4 c5++sF 10) [4,30,31,32,33,34,35,36,37,38,39,40,41,42,43,44,45,46,47,48,49,50,51,52,53,54,55] [(4,vB false)] [] [] (lE h)
    ·refine aT h (fun c6 h=> ?_) (fun c6 h=> ?_)
     ·exact rk hC (rT 4 c4++rT 4 c5++rF 5 c6++sF 5) [4,30,31,32,33,34,35,36,37,38,39,40,41,42,43,44,45,46,47,48,49,50,51,52,53,54,55] [(4,vB false)] [] [] (lE h)
     ·refine aT h (fun c7 h=> ?_) (fun c7 h=> ?_)
      ·exact rk hC (rT 4 c4++rT 4 c5++rT 3 c6++[oN aB a.subs,oT c6,oT c6]++rF 5 c7) [4,30,31,32,33,34,35,36,37,38,39,40,41,42,43,44,45,46,47,48,49,50,51,52,53,54,55] [(4,vB false)] [] [] (lE h)
      ·exact rk hC (rT 4 c4++rT 4 c5++rT 3 c6++[oN aB a.subs,oT c6,oT c6]++rT 3 c7++[oN aB a.subs,oT c7,oT c7]) [4,30,31,32,33,34,35,36,37,38,39,40,41,42,43,44,45,46,47,48,49,50,51,52,53,54,55] [(4,vB (decide ((a.subs.length:Int)≤2)))] [] [] (lE h)
  ·obtain rfl:=so h
   exact qr eR
theorem aAR{e}{depth}{r}(h:rE n e depth=some r):PQ G 123 [V.agg (fV e),vI depth] (vB r):=by
 unfold rE at h
 refine pq aQ Tryz.func123 rfl fun w X hC=> ?_
 refine rq hC [.z (.b (true))] [2,4] [(2,V.tp (hA e))] [] [] (qs (rq hC [] [5,6,7] [(7,vB (decide (e.kind=2)))] [] [] (aS h (fun c1 h=> ?_) (fun c1 h=> ?_))))
 ·refine vj h (fun x_=>bA [(4,vB x_)] [] []) (fun j1 h=> ?_) (fun x5 h=> ?_)
  ·
   refine aT h (fun c2 h=> ?_) (fun c2 h=> ?_)
   ·exact rk hC (rF 4 c2++sF 10) [4,8,9,10,11,12,13,14,15,16,17,18,19,20,21,22,23,24,25,26,27] [(4,vB false)] [] [] (lE h)
   ·obtain⟨x2,hx2,h⟩:=bd h
    refine aT h (fun c3 h=> ?_) (fun c3 h=> ?_)
    ·exact rk hC (rT 3 c2++[oV (jG G hx2),oT c2]++rF 4 c3++sF 6) [4,8,9,10,11,12,13,14,15,16,17,18,19,20,21,22,23,24,25,26,27] [(4,vB false)] [] [] (lE h)
    ·obtain⟨x3,hx3,h⟩:=bd h
     refine aT h (fun c4 h=> ?_) (fun c4 h=> ?_)
     ·exact rk hC (rT 3 c2++[oV (jG G hx2),oT c2]++rT 3 c3++[oV (cV G hx3),oT c3]++rF 6 c4) [4,8,9,10,11,12,13,14,15,16,17,18,19,20,21,22,23,24,25,26,27] [(4,vB false)] [] [] (lE h)
     ·obtain⟨x4,hx4,h⟩:=bd h
      exact rk hC (rT 3 c2++[oV (jG G hx2),oT c2]++rT 3 c3++[oV (cV G hx3),oT c3]++rT 3 c4++[oV (pB G hx4)]++rT 3 c4) [4,8,9,10,11,12,13,14,15,16,17,18,19,20,21,22,23,24,25,26,27] [(4,vB (decide (x4≤depth)))] [] [] (lE h)
  ·obtain rfl:=so h
   exact qr eR
 ·refine qk (qs (rq hC [] [28,29,30] [(30,vB (decide (e.kind=3)))] [] [] (aS h (fun c5 h=> ?_) (fun c5 h=> ?_))))
  ·refine vj h (fun x_=>bA [(4,vB x_)] [] []) (fun j6 h=> ?_) (fun x9 h=> ?_)
   ·
    refine aT h (fun c6 h=> ?_) (fun c6 h=> ?_)
    ·exact rk hC (rF 4 c6++sF 5) [4,31,32,33,34,35,36,37,38,39,40,41,42,43,44] [(4,vB false)] [] [] (lE h)
    ·obtain⟨x7,hx7,h⟩:=bd h
     refine aT h (fun c7 h=> ?_) (fun c7 h=> ?_)
     ·exact rk hC (rT 3 c6++[oV (iL G hx7),oT c6]++rF 5 c7) [4,31,32,33,34,35,36,37,38,39,40,41,42,43,44] [(4,vB false)] [] [] (lE h)
     ·obtain⟨x8,hx8,h⟩:=bd h
      exact rk hC (rT 3 c6++[oV (iL G hx7),oT c6]++rT 4 c7++[oV (nN G hx8),oT c7]) [4,31,32,33,34,35,36,37,38,39,40,41,42,43,44] [(4,vB x8)] [] [] (lE h)
   ·obtain rfl:=so h
    exact qr eR
  ·refine qk (qs (rq hC [] [45,46,47] [(47,vB (decide (e.kind=1)))] [] [] (aS h (fun c8 h=> ?_) (fun c8 h=> ?_))))
   ·refine vj h (fun x_=>bA [(4,vB x_)] [] []) (fun j10 h=> ?_) (fun x13 h=> ?_)
    ·
     refine aT h (fun c9 h=> ?_) (fun c9 h=> ?_)
     ·exact rk hC (rF 4 c9++sF 8) [4,48,49,50,51,52,53,54,55,56,57,58,59,60,61,62,63,64,65] [(4,vB false)] [] [] (lE h)
     ·refine aT h (fun c10 h=> ?_) (fun c10 h=> ?_)
      ·exact rk hC (rT 4 c9++rF 4 c10++sF 4) [4,48,49,50,51,52,53,54,55,56,57,58,59,60,61,62,63,64,65] [(4,vB false)] [] [] (lE h)
      ·obtain⟨x11,hx11,h⟩:=bd h
       refine aT h (fun c11 h=> ?_) (fun c11 h=> ?_)
       ·exact rk hC (rT 4 c9++rT 3 c10++[oV (iL G hx11),oT c10]++rF 4 c11) [4,48,49,50,51,52,53,54,55,56,57,58,59,60,61,62,63,64,65] [(4,vB false)] [] [] (lE h)
       ·obtain⟨x12,hx12,h⟩:=bd h
        exact rk hC (rT 4 c9++rT 3 c10++[oV (iL G hx11),oT c10]++rT 3 c11++[oV (jG G hx12),oT c11]) [4,48,49,50,51,52,53,54,55,56,57,58,59,60,61,62,63,64,65] [(4,vB x12)] [] [] (lE h)
    ·obtain rfl:=so h
     exact qr eR
   ·refine qk (vj h (fun x_=>bA [(4,vB x_)] [] []) (fun j14 h=> ?_) (fun x17 h=> ?_))
    ·
     refine aT h (fun c12 h=> ?_) (fun c12 h=> ?_)
     ·exact rk hC (rF 4 c12++sF 4) [4,66,67,68,69,70,71,72,73,74,75,76,77,78] [(4,vB false)] [] [] (lE h)
     ·obtain⟨x15,hx15,h⟩:=bd h
      refine aT h (fun c13 h=> ?_) (fun c13 h=> ?_)
      ·exact rk hC (rT 3 c12++[oV (iL G hx15),oT c12]++rF 4 c13) [4,66,67,68,69,70,71,72,73,74,75,76,77,78] [(4,vB false)] [] [] (lE h)
      ·obtain⟨x16,hx16,h⟩:=bd h
       exact rk hC (rT 3 c12++[oV (iL G hx15),oT c12]++rT 3 c13++[oV (jG G hx16),oT c13]) [4,66,67,68,69,70,71,72,73,74,75,76,77,78] [(4,vB x16)] [] [] (lE h)
    ·obtain rfl:=so h
     exact qr eR
theorem N7(G:GS): ∀(n:Nat) (e:Expr) (depth:Int) (levels:Int) {r:Bool} (h:s_l3Shape n e depth levels=some r),PQ G 88 [V.agg (fV e),vI depth,vI levels] (vB r):=by
 intro n
 induction n with
 |zero=>intro e depth levels r h;rw [s_l3Shape.eq_def] at h;cases h
 |succ n ih=>
  intro e depth levels r h
  rw [s_l3Shape.eq_def] at h;dsimp only at h
  refine pq aQ Tryz.func88 rfl fun w X hC=> ?_
  refine rq hC [.z (.b (true))] [3,6] [(3,V.tp (hA e))] [] [] (qs (vj h (fun x_=>bA [(1,vI depth),(2,vI levels),(3,V.tp (hA e)),(24,vB x_)] [] []) (fun j1 h=> ?_) (fun x4 h=> ?_)))
  ·
   refine aT h (fun c1 h=> ?_) (fun c1 h=> ?_)
   ·obtain⟨x2,hx2,h⟩:=bd h
    refine aT h (fun c2 h=> ?_) (fun c2 h=> ?_)
    ·obtain⟨x3,hx3,h⟩:=bd h
     exact dk hC bO (rF 3 c1++[oV (xY G hx2)]++rF 3 c1++[oN aM e.kids,oF c1,oF c1]++rF 3 c2++[oV (aAR G hx3),oF c2,oF c2]) (fr 8 17) [(24,vB (!x3))] [] [] (lE h)
    ·exact dk hC bO (rF 3 c1++[oV (xY G hx2)]++rF 3 c1++[oN aM e.kids,oF c1,oF c1]++rT 5 c2) (fr 8 17) [(24,vB true)] [] [] (lE h)
   ·exact dk hC bO (rT 8 c1++sT 5) (fr 8 17) [(24,vB true)] [] [] (lE h)
  ·refine aS h (fun c3 h=> ?_) (fun c3 h=> ?_)
   ·obtain rfl:=so h
    exact rq hC [] [6] [(6,vB false)] [] [] (qr eR)
   ·refine qk (qs (rq hC [] [7] [(7,vI 0)] [] [] (qb (jH h (fun x_=>bA [(1,vI depth),(2,vI levels),(3,V.tp (hA e)),(7,vI x_)] [] []) lS ?_))))
    rintro again6 x5 h
    refine qs (rq hC [oN aM e.kids] (fr 25 5) [(29,vB (decide (x5<(e.kids.length:Int))))] [] [] (aS h (fun c4 h=> ?_) (fun c4 h=> ?_)))
    ·refine qk (qs (qb ?_))
     obtain⟨x7,hx7,x8,hx8,h⟩:=d7 h
     refine rq hC [.z (.row (fA x7)),oQ (iU aM hx7 (dY x7)),oV (ih x7 depth (wr (levels-1)) hx8)] (fr 32 10) [(41,vB (!x8))] [] [] (aS h (fun c5 h=> ?_) (fun c5 h=> ?_))
     ·obtain rfl:=so h
      exact rq hC [] [6] [(6,vB false)] [] [] (qr eR)
     ·exact qk (rk hC [] [7,30,31] [(7,vI (wr (x5+1)))] [] [] (lE h))
    ·obtain rfl:=so h
     exact dE (rq hC [] [6] [(6,vB true)] [] [] (qr eR))
theorem O1(G:GS): ∀(n:Nat) (e:Expr) (levels:Int) {r:Int} (h:s_l3Count n e levels=some r),PQ G 89 [V.agg (fV e),vI levels] (vI r):=by
 intro n
 induction n with
 |zero=>intro e levels r h;rw [s_l3Count.eq_def] at h;cases h
 |succ n ih=>
  intro e levels r h
  rw [s_l3Count.eq_def] at h;dsimp only at h
  refine pq aQ Tryz.func89 rfl fun w X hC=> ?_
  refine rq hC [.z (.b (true))] [2,4] [(2,V.tp (hA e))] [] [] (rq hC [] [5] [(5,vI 1)] [] [] (qs (rq hC [] [6] [(6,vI 0)] [] [] (qb (jH h (fun x_=>bA [(1,vI levels),(2,V.tp (hA e)),(5,vI x_.1),(6,vI x_.2)] [] []) lS ?_)))))
  rintro again3 ⟨x1,x2⟩ h
  refine qs (vj h (fun x_=>bA [(1,vI levels),(2,V.tp (hA e)),(5,vI x1),(6,vI x2),(15,vB x_)] [] []) (fun j4 h=> ?_) (fun x5 h=> ?_))
  ·
   refine aT h (fun c1 h=> ?_) (fun c1 h=> ?_)
   ·exact rk hC ([oN aM e.kids]++rF 3 c1) (fr 7 9) [(15,vB false)] [] [] (lE h)
   ·exact rk hC ([oN aM e.kids]++rT 3 c1) (fr 7 9) [(15,vB (decide ((0:Int)<levels)))] [] [] (lE h)
  ·refine aS h (fun c2 h=> ?_) (fun c2 h=> ?_)
   ·refine qk (qs (qb ?_))
    obtain⟨x6,hx6,x7,hx7,h⟩:=d7 h
    exact rk hC [.z (.row (fA x6)),oQ (iU aM hx6 (dY x6)),oV (ih x6 (wr (levels-1)) hx7)] [5,18,19,20,21,22,23,24,25,26,27] [(5,vI (wr (x1+x7)))] [] [] (rk hC [] [6,16,17] [(6,vI (wr (x2+1)))] [] [] (lE h))
   ·obtain rfl:=so h
    exact dE (rq hC [] [4,28] [(4,vI x1)] [] [] (qr eR))
theorem lU{s}{depth}{r}(h:e9 n s depth=some r):PQ G 54 [V.agg (hS s),vI depth] (vB r):=by
 unfold e9 at h
 refine pq aQ Tryz.func54 rfl fun w X hC=> ?_
 refine rq hC [.z (.b (true))] [2,4] [(2,V.tp (pY s))] [] [] (qs (vj h (fun x_=>bA [(2,V.tp (pY s)),(24,vB x_)] [] []) (fun j1 h=> ?_) (fun x4 h=> ?_)))
 ·
  refine aT h (fun c1 h=> ?_) (fun c1 h=> ?_)
  ·refine aT h (fun c2 h=> ?_) (fun c2 h=> ?_)
   ·obtain⟨x2,hx2,h⟩:=bd h
    refine aT h (fun c3 h=> ?_) (fun c3 h=> ?_)
    ·obtain⟨x3,hx3,h⟩:=bd h
     exact rk hC (rF 3 c1++rF 4 c2++[oV (nN G hx2),oF c2,oF c2]++rF 4 c3++[oV (N7 G n s.value depth 5 hx3),oF c3,oF c3]) (fr 5 20) [(24,vB (!x3))] [] [] (lE h)
    ·exact rk hC (rF 3 c1++rF 4 c2++[oV (nN G hx2),oF c2,oF c2]++rT 6 c3) (fr 5 20) [(24,vB true)] [] [] (lE h)
   ·exact rk hC (rF 3 c1++rT 6 c2++sT 6) (fr 5 20) [(24,vB true)] [] [] (lE h)
  ·exact rk hC (rT 3 c1++sT 12) (fr 5 20) [(24,vB true)] [] [] (lE h)
 ·refine aS h (fun c4 h=> ?_) (fun c4 h=> ?_)
  ·obtain rfl:=so h
   exact rq hC [] [4] [(4,vB false)] [] [] (qr eR)
  ·refine qk ?_
   obtain⟨x5,hx5,h⟩:=bd h
   obtain rfl:=so h
   exact rq hC [oV (O1 G n s.value 5 hx5)] [4,25,26,27,28] [(4,vB (decide (x5≤12)))] [] [] (qr eR)
theorem yG{s}{r}(h:m4 n s=some r):PQ G 112 [V.agg (hS s)] (vS r):=by
 unfold m4 at h
 refine pq aQ Tryz.func112 rfl fun w X hC=> ?_
 refine rq hC [.z (.b (true))] [1,2] [(1,V.tp (pY s))] [] [] (qs ?_)
 obtain⟨x1,hx1,h⟩:=bd h
 refine rq hC [oV (lU G hx1)] [3,4,5] [(5,vB (!x1))] [] [] (aS h (fun c1 h=> ?_) (fun c1 h=> ?_))
 ·obtain rfl:=so h
  exact rq hC [] [2] [(2,vS [])] [] [] (qr eR)
 ·refine qk (qs ?_)
  obtain⟨x2,hx2,x3,hx3,x4,hx4,h⟩:=kI h
  obtain⟨x5,hx5,h⟩:=bd h
  obtain rfl:=so h
  exact dk hC bO [oV (iN G hx2),oS hx3,oV (xX G n s.value hx4),oS hx5] [2,6,7,8,9,10,11,12,13] [(2,vS x5)] [] [] (qr eR)
theorem qW{s}{c}{r}(h:o0 n s c=some r):VQ G 49 [] [vS s,vY c] (ms 0 1 1 rS r) [ar 9 1 1 rS r]:=by
 unfold o0 at h
 refine vq aQ Tryz.func49 rfl fun w X β0 hC hg=> ?_
 refine rq hC [] [4] [] [] [] (rq hC [.z (.nat 20)] [5,8] [(5,ms 20 1 1 rS [])] [(20,some (ar 9 1 1 rS []))] [(20,true)] (rq hC [] [6] [(6,vI 0)] [] [] (qs (rq hC [] [7] [(7,vI 0)] [] [] ?_))))
 refine qb (bJ (γ:=Nat) h (fun x_ g_=>bA [(0,vS s),(1,vY c),(5,ms 20 g_ 1 rS x_.1),(6,vI x_.2.1),(7,vI x_.2.2)] [(20,ar 9 g_ 1 rS x_.1)] [20]) 1 (lS) ?_)
 rintro again5 ⟨x1,x2,x3⟩ g4 h
 refine qs (rq hC [] (fr 9 4) [(12,vB (decide (x3≤(s.length:Int))))] [] [] (aS h (fun c1 h=> ?_) (fun c1 h=> ?_)))
 ·refine qk ?_
  obtain⟨j6,hj6,h⟩:=yT h
  refine kK (γ:=Nat) (j:=j6) (r:=r) (fun x_ g_=>bA [(0,vS s),(1,vY c),(5,ms 20 g_ 1 rS x_.1),(6,vI x_.2),(7,vI x3)] [(20,ar 9 g_ 1 rS x_.1)] [20]) ?_ ?_
  ·
   refine qb (vj h (fun x_=>bA [(0,vS s),(1,vY c),(5,ms 20 g4 1 rS x1),(6,vI x2),(7,vI x3),(25,vB x_)] [(20,ar 9 g4 1 rS x1)] [20]) (fun j7 h=> ?_) (fun x9 h=> ?_))
   ·
    refine aT h (fun c2 h=> ?_) (fun c2 h=> ?_)
    ·obtain⟨x8,hx8,h⟩:=bd h
     exact rk hC (rF 3 c2++[oY hx8]++rF 3 c2) (fr 15 11) [(25,vB (decide ((x8.toNat:Int)=(c.toNat:Int))))] [] [] (lE h)
    ·exact rk hC (rT 6 c2) (fr 15 11) [(25,vB true)] [] [] (lE h)
   ·refine aS h (fun c3 h=> ?_) (fun c3 h=> ?_)
    ·obtain⟨x10,hx10,x11,hx11,h⟩:=d7 h
     exact rq hC [oS hx10,.z (.int 0),oA (aO rS hx11),oQ (b8 (r:=rS) 1 (fun _=>rfl) x1),oQ (b8 (r:=rS) 1 (fun _=>rfl) [x10])] [5,26,27,28,29,30,31,32] [(5,ms 20 (g4+1) 1 rS x11)] [(20,some (ar 9 (g4+1) 1 rS x11))] [] (rk hC [] [6,33,34] [(6,vI (wr (x3+1)))] [] [] ⟨(x11,wr (x3+1)),(g4+1),h,lS⟩)
    ·exact qk ⟨(x1,x2),g4,h,lS⟩
  ·rintro⟨x12,x13⟩ g14 h
   subst hj6
   exact rk hC [] [7,13,14] [(7,vI (wr (x3+1)))] [] [] ⟨(x12,x13,wr (x3+1)),g14,h,lS⟩
 ·obtain rfl:=so h
  exact dE (rq hC [] [4,35] [(4,ms 20 g4 1 rS x1)] [] [] (qw (lk hC [.ren 4 20 0] [4] [(4,ms 0 1 1 rS x1)] [(0,some (ar 9 1 1 rS x1)),(20,none)] [(0,true)]) (qr eW)))
end Go.Lift
