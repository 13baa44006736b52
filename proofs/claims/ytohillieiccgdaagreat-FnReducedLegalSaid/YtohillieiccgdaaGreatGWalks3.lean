/- The walks: the code computes what the plain functions say. -/
import Derived.Test.YtohillieiccgdaaGreatGModels
import Derived.Test.YtohillieiccgdaaGreatGWalks2
set_option maxRecDepth 10000
set_option linter.unusedVariables false
namespace Go.Lift
open Go Go.Proofs
variable (G:GS) {n:Nat}
theorem O4{list}{r}(h:jA n list=some r):VQ G 89 [] [vM rB list] (ms 0 1 1 rI r) [ar 3 1 1 rI r]:=by
 unfold jA at h
 refine vq aM Tryz.func89 rfl fun w X β0 hC hg=> ?_
 refine rq hC [] [2] [] [] [] (rq hC [.z (.nat 20)] [3,5] [(3,ms 20 1 1 rI [])] [(20,some (ar 3 1 1 rI []))] [(20,true)] (qs (rq hC [] [4] [(4,vI 0)] [] [] (qb (bD (γ:=Nat) h (fun x_ g_=>aZ [(0,vM rB list),(3,ms 20 g_ 1 rI x_.1),(4,vI x_.2)] [(20,ar 3 g_ 1 rI x_.1)] [20]) 1 (lS) ?_)))))
 rintro again4 ⟨x1,x2⟩ g3 h
 refine qs (rq hC [oN rB list] (fr 6 4) [(9,vB (decide (x2<(list.length:Int))))] [] [] (aP h (fun c1 h=> ?_) (fun c1 h=> ?_)))
 ·refine qk ?_
  obtain⟨j5,hj5,h⟩:=wL h
  refine iT (γ:=Nat) (j:=j5) (r:=r) (fun x_ g_=>aZ [(0,vM rB list),(3,ms 20 g_ 1 rI x_),(4,vI x2)] [(20,ar 3 g_ 1 rI x_)] [20]) ?_ ?_
  ·
   refine qb ?_
   obtain⟨x6,hx6,h⟩:=bd h
   refine rq hC [oR rB hx6] (fr 12 4) [(15,vB x6)] [] [] (aP h (fun c2 h=> ?_) (fun c2 h=> ?_))
   ·obtain⟨x7,hx7,h⟩:=bd h
    exact rk hC [.z (.int 0),oA (aT rI hx7),oQ (cL (r:=rI) 1 (fun _=>rfl) x1),oQ (cL (r:=rI) 1 (fun _=>rfl) [x2])] [3,16,17,18,19] [(3,ms 20 (g3+1) 1 rI x7)] [(20,some (ar 3 (g3+1) 1 rI x7))] [] ⟨x7,(g3+1),h,lS⟩
   ·exact qk ⟨x1,g3,h,lS⟩
  ·rintro x8 g9 h
   subst hj5
   exact rk hC [] [4,10,11] [(4,vI (wr (x2+1)))] [] [] ⟨(x8,wr (x2+1)),g9,h,lS⟩
 ·obtain rfl:=so h
  exact cO (rq hC [] [2,20] [(2,ms 20 g3 1 rI x1)] [] [] (qw (lk hC [.ren 2 20 0] [2] [(2,ms 0 1 1 rI x1)] [(0,some (ar 3 1 1 rI x1)),(20,none)] [(0,true)]) (qr eW)))
theorem aBg{deps}{done}(doneG:Nat){r}(h:oU n deps done=some r):VQ G 83 [ar 4 doneG 1 rB done] [vM aV deps,ms 0 doneG 1 rB done] (ms 1 1 1 rI r.1) [ar 4 doneG 1 rB r.2,ar 3 1 1 rI r.1]:=by
 unfold oU at h
 refine vq aM Tryz.func83 rfl fun w X β0 hC hg=> ?_
 refine rq hC [] [4] [] [] [] ?_
 obtain⟨x1,hx1,h⟩:=bd h
 refine rq hC [oN rB done,.z (.nat 20),oA (u5 rB hx1),oQ (mA hx1).1] [5,8,9,10] [(5,ms 20 1 1 rB x1)] [(20,some (ar 4 1 1 rB x1))] [(20,true)] (qs (rq hC [] [6] [(6,vI 0)] [] [] (qb (bD (γ:=Nat) h (fun x_ g_=>aZ [(0,vM aV deps),(1,ms 0 doneG 1 rB done),(5,ms 20 g_ 1 rB x_.1),(6,vI x_.2)] [(0,ar 4 doneG 1 rB done),(20,ar 4 g_ 1 rB x_.1)] [0,20]) 1 (lS) ?_))))
 rintro again5 ⟨x2,x3⟩ g4 h
 refine qs (rq hC [oN rB done] (fr 11 4) [(14,vB (decide (x3<(done.length:Int))))] [] [] (aP h (fun c1 h=> ?_) (fun c1 h=> ?_)))
 ·refine qk (qs (qb ?_))
  obtain⟨x6,hx6,x7,hx7,x8,hx8,h⟩:=iZ h
  exact rk hC [oQ (fJ rB hx6),oX rB hx6,oQ (fJ rB hx7),oX rB hx7,.z (.rows (List.map rB x8)),.z (.len 5 (List.map rB x8).length),oQ (str rB hx8),oQ (lJ rB hx8)] [5,17,18,19,20,21,22,23,24] [(5,ms 20 g4 1 rB x8)] [(20,some (ar 4 g4 1 rB x8))] [] (rk hC [] [6,15,16] [(6,vI (wr (x3+1)))] [] [] ⟨(x8,wr (x3+1)),g4,h,lS⟩)
 ·refine cO (qs (rq hC [] [7] [(7,vI 0)] [] [] (qb (bD (γ:=Nat) h (fun x_ g_=>aZ [(0,vM aV deps),(1,ms 0 doneG 1 rB done),(5,ms 20 g_ 1 rB x_.1),(7,vI x_.2)] [(0,ar 4 doneG 1 rB done),(20,ar 4 g_ 1 rB x_.1)] [0,20]) g4 (lS) ?_))))
  rintro again12 ⟨x9,x10⟩ g11 h
  refine qs (rq hC [oN aV deps] (fr 25 4) [(28,vB (decide (x10<(deps.length:Int))))] [] [] (aP h (fun c2 h=> ?_) (fun c2 h=> ?_)))
  ·refine qk (vj h (fun x_=>aZ [(0,vM aV deps),(1,ms 0 doneG 1 rB done),(5,ms 20 g11 1 rB x_),(7,vI x10)] [(0,ar 4 doneG 1 rB done),(20,ar 4 g11 1 rB x_)] [0,20]) (fun j13 h=> ?_) (fun x18 h=> ?_))
   ·
    refine qb ?_
    obtain⟨x14,hx14,x15,hx15,h⟩:=dD h
    refine rq hC [oR aV hx14,oQ (fJ rB hx15),oX rB hx15] (fr 31 9) [(39,vB (!x15))] [] [] (aP h (fun c3 h=> ?_) (fun c3 h=> ?_))
    ·obtain⟨x16,hx16,x17,hx17,h⟩:=dD h
     exact rk hC [oR aV hx14,oQ (fJ rB hx16),oX rB hx16,.z (.rows (List.map rB x17)),.z (.len 5 (List.map rB x17).length),oQ (str rB hx17),oQ (lJ rB hx17)] [5,40,41,42,43,44,45,46] [(5,ms 20 g11 1 rB x17)] [(20,some (ar 4 g11 1 rB x17))] [] (lE h)
    ·exact qk (lE h)
   ·exact rk hC [] [7,29,30] [(7,vI (wr (x10+1)))] [] [] ⟨(x18,wr (x10+1)),g11,h,lS⟩
  ·refine cO ?_
   obtain⟨x19,hx19,h⟩:=bd h
   obtain rfl:=so h
   exact rq hC [.z (.at 2),.z (.fz 20 [5,47] []),oC [] [21] (O4 G hx19)] [4,5,47,48] [(4,ms 21 1 1 rI x19)] [(20,none),(21,some (ar 3 1 1 rI x19))] [(21,true)] (qw (lk hC [.ren 4 21 1] [4] [(4,ms 1 1 1 rI x19)] [(1,some (ar 3 1 1 rI x19)),(21,none)] [(1,true)]) (qr eW))
theorem Z3{choices}{n_a1}{many}{r}(h:mY n choices n_a1 many=some r):PQ G 84 [vM rI choices,vI n_a1,vI many] (vI r):=by
 unfold mY at h
 refine pq aM Tryz.func84 rfl fun w X hC=> ?_
 refine rq hC [] [6] [] [] [] (qs (rq hC [oN rI choices] [8,9,10] [(10,vB (decide ((choices.length:Int)=0)))] [] [] (aP h (fun c1 h=> ?_) (fun c1 h=> ?_))))
 ·obtain rfl:=so h
  exact rq hC [] [6] [(6,vI 0)] [] [] (qr eR)
 ·refine qk ?_
  obtain⟨x1,hx1,x2,hx2,x3,hx3,h⟩:=iZ h
  refine rq hC [oN rI choices,oQ (uZ hx1),oR rI hx2,oQ (uZ hx3)] [7,11,12,13,14,15,16,17,18,19] [(7,vI (Int.tmod x2 many))] [] [] (qs (rq hC [] [20,21] [(21,vB (decide (Int.tmod x2 many<0)))] [] [] (aP h (fun c2 h=> ?_) (fun c2 h=> ?_))))
  ·obtain rfl:=so h
   exact rq hC [] [6] [(6,vI 0)] [] [] (qr eR)
  ·obtain rfl:=so h
   exact qk (rq hC [] [6,22] [(6,vI (Int.tmod x2 many))] [] [] (qr eR))
theorem M5{p}{r}(h:jU n p=some r):PQ G 29 [V.agg (bV p)] (vI r):=by
 unfold jU at h
 refine pq aM Tryz.func29 rfl fun w X hC=> ?_
 refine rq hC [.z (.b (true))] [1,2] [(1,V.tp (bP p))] [] [] (qs ?_)
 obtain⟨x1,hx1,h⟩:=bd h
 refine rq hC [oV (iC G hx1)] [3,4,5] [(5,vB (!x1))] [] [] (aP h (fun c1 h=> ?_) (fun c1 h=> ?_))
 ·obtain rfl:=so h
  exact rq hC [] [2] [(2,vI 0)] [] [] (qr eR)
 ·refine qk ?_
  obtain⟨x2,hx2,h⟩:=bd h
  obtain rfl:=so h
  exact rq hC [oV (jZ G hx2)] [2,6,7] [(2,vI x2)] [] [] (qr eR)
theorem lV{p}{r}(h:cX n p=some r):VQ G 182 [] [V.agg (bV p)] (ms 0 1 3 aJ r) [ar 38 1 3 aJ r]:=by
 unfold cX at h
 refine vq aM Tryz.func182 rfl fun w X β0 hC hg=> ?_
 refine rq hC [.z (.b (true))] [1,2] [(1,V.tp (bP p))] [] [] (qs ?_)
 obtain⟨x1,hx1,h⟩:=bd h
 refine rq hC [oV (dZ G hx1)] [3,4,5] [(5,vB (!x1))] [] [] (aP h (fun c1 h=> ?_) (fun c1 h=> ?_))
 ·obtain rfl:=so h
  exact rq hC [.z (.nat 20)] [2,6] [(2,ms 20 1 3 aJ [])] [(20,some (ar 38 1 3 aJ []))] [(20,true)] (qw (lk hC [.ren 2 20 0] [2] [(2,ms 0 1 3 aJ [])] [(0,some (ar 38 1 3 aJ [])),(20,none)] [(0,true)]) (qr eW))
 ·refine qk ?_
  obtain⟨x2,hx2,h⟩:=bd h
  obtain rfl:=so h
  exact rq hC [oC [] [20] (iS G hx2)] [2,7,8] [(2,ms 20 1 3 aJ x2)] [(20,some (ar 38 1 3 aJ x2))] [(20,true)] (qw (lk hC [.ren 2 20 0] [2] [(2,ms 0 1 3 aJ x2)] [(0,some (ar 38 1 3 aJ x2)),(20,none)] [(0,true)]) (qr eW))
theorem aBi{r_a0}{p}{r}(h:oZ n r_a0 p=some r):VQ G 91 [eL r_a0] [V.ref 0 0,V.agg (bV p)] (ms 1 1 1 rI r.1) [eL r.2,ar 3 1 1 rI r.1]:=by
 unfold oZ at h
 refine vq aM Tryz.func91 rfl fun w X β0 hC hg=> ?_
 refine rq hC [.z (.b (true))] [3,4] [(3,V.tp (bP p))] [] [] (rq hC [.z (.nat 20)] [5,11] [(5,ms 20 1 1 rI [])] [(20,some (ar 3 1 1 rI []))] [(20,true)] (qs (rq hC [] [6] [(6,vI 0)] [] [] (qb (bD (γ:=Nat) h (fun x_ g_=>aZ [(0,V.ref 0 0),(3,V.tp (bP p)),(5,ms 20 g_ 1 rI x_.1),(6,vI x_.2)] [(0,eL r_a0),(20,ar 3 g_ 1 rI x_.1)] [0,20]) 1 (lS) ?_)))))
 rintro again4 ⟨x1,x2⟩ g3 h
 refine qs ?_
 obtain⟨x5,hx5,h⟩:=bd h
 refine rq hC [oC [] [21] (lV G hx5),oN aJ x5] (fr 12 5) [(16,vB (decide (x2<(x5.length:Int))))] [(21,some (ar 38 1 3 aJ x5))] [(21,true)] (aP h (fun c1 h=> ?_) (fun c1 h=> ?_))
 ·refine qk (qs (qb ?_))
  obtain⟨x6,hx6,h⟩:=bd h
  exact rk hC [.z (.int 0),oA (aT rI hx6),oQ (cL (r:=rI) 1 (fun _=>rfl) x1),oQ (cL (r:=rI) 1 (fun _=>rfl) [x2])] [5,19,20,21,22] [(5,ms 20 (g3+1) 1 rI x6)] [(20,some (ar 3 (g3+1) 1 rI x6))] [] (rk hC [] [6,17,18] [(6,vI (wr (x2+1)))] [] [] ⟨(x6,wr (x2+1)),(g3+1),h,lS⟩)
 ·refine cO (qs ?_)
  obtain⟨x7,hx7,h⟩:=bd h
  refine rq hC [.z (.int 0),oC [0] [] (bB G hx7)] [7,23,24,25] [(7,vI x7.1)] [(0,sR x7.2)] [(0,true)] (qb (bD (γ:=Nat) h (fun x_ g_=>aZ [(0,V.ref 0 0),(5,ms 20 g_ 1 rI x_.2.2.1),(7,vI x_.2.2.2)] [(0,E.cells [vM rY x_.1,vI x_.2.1]),(20,ar 3 g_ 1 rI x_.2.2.1),(21,ar 38 1 3 aJ x5)] [0,20,21]) g3 (lS) ?_))
  rintro again13 ⟨x8,x9,x10,x11⟩ g12 h
  refine qs (vj h (fun x_=>aZ [(0,V.ref 0 0),(5,ms 20 g12 1 rI x10),(7,vI x11),(32,vB x_)] [(0,E.cells [vM rY x8,vI x9]),(20,ar 3 g12 1 rI x10),(21,ar 38 1 3 aJ x5)] [0,20,21]) (fun j14 h=> ?_) (fun x15 h=> ?_))
  ·
   refine aQ h (fun c2 h=> ?_) (fun c2 h=> ?_)
   ·exact rk hC (rF 4 c2) (fr 26 7) [(32,vB false)] [] [] (lE h)
   ·exact rk hC [oT c2,oT c2,oN rI x10,oT c2,oT c2] (fr 26 7) [(32,vB (decide ((1:Int)<(x10.length:Int))))] [] [] (lE h)
  ·refine aP h (fun c3 h=> ?_) (fun c3 h=> ?_)
   ·refine qk (qs (qb ?_))
    obtain⟨x16,hx16,h⟩:=bd h
    refine rq hC [oN rI x10,oC [0] [] (aU G hx16)] [8,35,36,37,38] [(8,vI x16.1)] [(0,sR x16.2)] [(0,true)] ?_
    obtain⟨x17,hx17,h⟩:=bd h
    refine rq hC [oN rI x10,oC [0] [] (aU G hx17)] [9,39,40,41,42] [(9,vI x17.1)] [(0,sR x17.2)] [(0,true)] ?_
    obtain⟨x18,hx18,h⟩:=bd h
    refine rq hC [oQ (fJ rI hx18),oX rI hx18] [10,43,44,45,46] [(10,vI x18)] [] [] ?_
    obtain⟨x19,hx19,x20,hx20,h⟩:=dD h
    refine rq hC [oQ (fJ rI hx19),oX rI hx19,oQ (fJ rI hx18),oX rI hx18,.z (.rows (List.map rI x20)),.z (.len 5 (List.map rI x20).length),oQ (str rI hx20),oQ (lJ rI hx20)] [5,47,48,49,50,51,52,53] [(5,ms 20 g12 1 rI x20)] [(20,some (ar 3 g12 1 rI x20))] [] ?_
    obtain⟨x21,hx21,x22,hx22,h⟩:=dD h
    exact rk hC [oQ (fJ rI hx21),oX rI hx21,.z (.rows (List.map rI x22)),.z (.len 5 (List.map rI x22).length),oQ (str rI hx22),oQ (lJ rI hx22)] [5,54,55,56,57] [(5,ms 20 g12 1 rI x22)] [(20,some (ar 3 g12 1 rI x22))] [] (rk hC [] [7,33,34] [(7,vI (wr (x11-1)))] [] [] ⟨(x17.2.b,x17.2.p,x22,wr (x11-1)),g12,h,lS⟩)
   ·refine cO (vj h (fun x_=>aZ [(5,ms 20 g12 1 rI x_.2.2)] [(0,E.cells [vM rY x_.1,vI x_.2.1]),(20,ar 3 g12 1 rI x_.2.2),(21,ar 38 1 3 aJ x5)] [0,20,21]) (fun j23 h=> ?_) ?_)
    ·
     refine vj h (fun x_=>aZ [(0,V.ref 0 0),(5,ms 20 g12 1 rI x10),(65,vB x_.2.2)] [(0,E.cells [vM rY x_.1,vI x_.2.1]),(20,ar 3 g12 1 rI x10),(21,ar 38 1 3 aJ x5)] [0,20,21]) (fun j24 h=> ?_) ?_
     ·
      refine aQ h (fun c4 h=> ?_) (fun c4 h=> ?_)
      ·exact rk hC ([oN rI x10]++rF 4 c4) (fr 58 8) [(65,vB false)] [] [] (lE h)
      ·obtain⟨x25,hx25,h⟩:=bd h
       exact rk hC [oN rI x10,oT c4,oT c4,oC [0] [] (aU G hx25),oT c4,oT c4] (fr 58 8) [(65,vB (decide (x25.1=0)))] [(0,sR x25.2)] [(0,true)] (lE h)
     ·rintro⟨x26,x27,x28⟩ h
      refine aP h (fun c5 h=> ?_) (fun c5 h=> ?_)
      ·obtain⟨x29,hx29,x30,hx30,x31,hx31,h⟩:=iZ h
       exact rk hC [.z (.int 0),oC [0] [] (bB G hx29),oQ (fJ rI hx30),oX rI hx30,.z (.rows (List.map rI x31)),.z (.len 5 (List.map rI x31).length),oQ (str rI hx31),oQ (lJ rI hx31)] [5,66,67,68,69,70] [(5,ms 20 g12 1 rI x31)] [(0,sR x29.2),(20,some (ar 3 g12 1 rI x31))] [(0,true)] (lE h)
      ·exact qk (lE h)
    ·rintro⟨x32,x33,x34⟩ h
     obtain rfl:=so h
     exact rq hC [] [4,71] [(4,ms 20 g12 1 rI x34)] [] [] (qw (lk hC [.ren 4 20 1] [4] [(4,ms 1 1 1 rI x34)] [(1,some (ar 3 1 1 rI x34)),(20,none)] [(1,true)]) (qr eW))
theorem Z7(G:GS)(n:Nat)(d:Dep)(c0__a1:List Int){r:Bool}(h:iX n d c0__a1=some r):PQ G 244 [V.agg [vI d.fromF,vI d.toF,vI d.kinds],V.tp [T.sl (List.map rI c0__a1)]] (vB r):=by
 unfold iX at h
 refine pq aM Tryz.func244 rfl fun w X hC=> ?_
 refine rq hC [.z (.b (true))] [2,3] [(2,V.tp [T.int .i64 d.fromF,T.int .i64 d.toF,T.int .i64 d.kinds])] [] [] (qs ?_)
 obtain⟨x1,hx1,x2,hx2,h⟩:=dD h
 obtain rfl:=so h
 exact dk hC bI [oR rI hx1,oR rI hx2] (fr 3 12) [(3,vB (decide (x1<x2)))] [] [] (qr eR)
theorem s7(G:GS)(n:Nat)(s:List Dep)(fF:FuncId)(fC0:List T)(f:Dep→Option Bool)(hf: ∀(q0:Dep) r,f q0=some r→PQ G fF [V.agg [vI q0.fromF,vI q0.toF,vI q0.kinds],V.tp fC0] (vB r)){r:Int}(h:cH n s f=some r):PQ G 185 [vM aV s,V.fn fF [V.tp fC0]] (vI r):=by
 unfold cH at h
 refine pq aM Tryz.func185 rfl fun w X hC=> ?_
 refine rq hC [] [4] [] [] [] (qs (rq hC [oN aV s] [6,7,8] [(7,vI (s.length:Int)),(8,vI 0)] [] [] (qb (jF h (fun x_=>aZ [(0,vM aV s),(1,V.fn fF [V.tp fC0]),(7,vI (s.length:Int)),(8,vI x_)] [] []) lS ?_))))
 rintro again2 x1 h
 refine rq hC [] [9] [(9,vB (decide (x1<(s.length:Int))))] [] [] (qs (aP h (fun c1 h=> ?_) (fun c1 h=> ?_)))
 ·refine qk (qs (qb (rq hC [] [5,10] [(5,vI x1)] [] [] ?_)))
  obtain⟨x3,hx3,x4,hx4,h⟩:=dD h
  refine rq hC [oR aV hx3,oV (hf x3 _ hx4)] (fr 11 6) [(16,vB x4)] [] [] (aP h (fun c2 h=> ?_) (fun c2 h=> ?_))
  ·obtain rfl:=so h
   exact rq hC [] [4,17] [(4,vI x1)] [] [] (qr eR)
  ·exact qk (rk hC [] [8,18] [(8,vI (wr (x1+1)))] [] [] (lE h))
 ·obtain rfl:=so h
  exact cO (rq hC [] [4] [(4,vI (-1))] [] [] (qr eR))
theorem aC0{deps}{order}{r}(h:sX n deps order=some r):PQ G 183 [vM aV deps,vM rI order] (vI r):=by
 unfold sX at h
 refine pq aM Tryz.func183 rfl fun w X hC=> ?_
 refine rq hC [] [4] [] [] [] ?_
 obtain⟨x1,hx1,h⟩:=bd h
 refine rq hC [oN rI order,.z (.nat 20),oA (u5 rI hx1),.z (.nat 21),oQ (mA hx1).1] [5,8,9,10] [(5,V.ref 21 0)] [(20,some (ar 3 1 1 rI x1)),(21,sc [ms 20 1 1 rI x1])] [(20,true),(21,true)] (qs (rq hC [oN rI order] [11,12,13] [(11,vM rI order),(12,vI (order.length:Int)),(13,vI 0)] [] [] (qb (bD (γ:=Nat) h (fun x_ g_=>aZ [(0,vM aV deps),(5,V.ref 21 0),(11,vM rI order),(12,vI (order.length:Int)),(13,vI x_.2)] [(20,ar 3 g_ 1 rI x_.1),(21,E.cells [ms 20 g_ 1 rI x_.1])] [20,21]) 1 (lS) ?_))))
 rintro again5 ⟨x2,x3⟩ g4 h
 refine rq hC [] [14] [(14,vB (decide (x3<(order.length:Int))))] [] [] (qs (aP h (fun c1 h=> ?_) (fun c1 h=> ?_)))
 ·refine qk (qs (qb ?_))
  obtain⟨x6,hx6,h⟩:=bd h
  refine rq hC [oR rI hx6] [6,7,15,16,17] [(6,vI x3),(7,vI x6)] [] [] ?_
  obtain⟨x7,hx7,x8,hx8,h⟩:=dD h
  exact rk hC [oQ (fJ rI hx7),oX rI hx7,.z (.rows (List.map rI x8)),.z (.lenc 21 0 (List.map rI x8).length),oQ (str rI hx8),oQ (lJ rI hx8)] (fr 18 4) [] [(20,some (ar 3 g4 1 rI x8)),(21,sc [ms 20 g4 1 rI x8])] [] (rk hC [] [13,22] [(13,vI (wr (x3+1)))] [] [] ⟨(x8,wr (x3+1)),g4,h,lS⟩)
 ·refine cO ?_
  obtain⟨x9,hx9,h⟩:=bd h
  obtain rfl:=so h
  exact rq hC [.z (.at 3),.z (.fz 20 [] [21]),.z (.at 3),.z (.fp 21 [5]),oV (s7 G n deps 244 [T.sl (List.map rI x2)] (fun q0=>iX n q0 x2) (fun q0 r h=>Z7 G n q0 x2 h) hx9)] [4,5,23,24,25] [(4,vI x9)] [(21,none),(20,none)] [] (qr eR)
theorem aEA(G:GS)(n:Nat)(p:Prog)(order:List Int)(depsF:FuncId)(deps:Prog→Option (List Dep))(hdeps: ∀(q0:Prog) r,deps q0=some r→PQ G depsF [V.agg (bV q0)] (vM aV r)){r:Bool}(h:B7 n p order deps=some r):PQ G 92 [V.agg (bV p),vM rI order,V.fn depsF []] (vB r):=by
 unfold B7 at h
 refine pq aM Tryz.func92 rfl fun w X hC=> ?_
 refine rq hC [.z (.b (true))] [3,6] [(3,V.tp (bP p))] [] [] (vj h (fun x_=>aZ [(6,vB x_)] [] []) (fun j1 h=> ?_) (fun x5 h=> ?_))
 ·
  obtain⟨x2,hx2,h⟩:=bd h
  refine aQ h (fun c1 h=> ?_) (fun c1 h=> ?_)
  ·exact rk hC ([oV (nR G hx2)]++rF 7 c1) (fr 6 12) [(6,vB false)] [] [] (lE h)
  ·obtain⟨x3,hx3,x4,hx4,h⟩:=dD h
   exact rk hC ([oV (nR G hx2)]++rT 3 c1++[oV (hdeps p _ hx3),oT c1,oT c1,oV (aC0 G hx4),oT c1,oT c1]) (fr 6 12) [(6,vB (decide (x4<0)))] [] [] (lE h)
 ·obtain rfl:=so h
  exact qr eR
theorem aCL{list}{n_a1}{r}(h:rW n list n_a1=some r):PQ G 184 [vM rI list,vI n_a1] (vB r):=by
 unfold rW at h
 refine pq aM Tryz.func184 rfl fun w X hC=> ?_
 refine rq hC [] [4] [] [] [] ?_
 obtain⟨x1,hx1,h⟩:=bd h
 refine rq hC [.z (.nat 20),oA (u5 rB hx1),oQ (mA hx1).1] [5,7,8] [(5,ms 20 1 1 rB x1)] [(20,some (ar 4 1 1 rB x1))] [(20,true)] (qs (rq hC [] [6] [(6,vI 0)] [] [] (qb (bD (γ:=Nat) h (fun x_ g_=>aZ [(0,vM rI list),(1,vI n_a1),(5,ms 20 g_ 1 rB x_.1),(6,vI x_.2)] [(20,ar 4 g_ 1 rB x_.1)] [20]) 1 (lS) ?_))))
 rintro again5 ⟨x2,x3⟩ g4 h
 refine qs (rq hC [oN rI list] (fr 9 4) [(12,vB (decide (x3<(list.length:Int))))] [] [] (aP h (fun c1 h=> ?_) (fun c1 h=> ?_)))
 ·refine qk (qs (qb (qs (vj h (fun x_=>aZ [(0,vM rI list),(1,vI n_a1),(5,ms 20 g4 1 rB x2),(6,vI x3),(36,vB x_)] [(20,ar 4 g4 1 rB x2)] [20]) (fun j6 h=> ?_) (fun x9 h=> ?_)))))
  ·
   obtain⟨x7,hx7,h⟩:=bd h
   refine aQ h (fun c2 h=> ?_) (fun c2 h=> ?_)
   ·refine aQ h (fun c3 h=> ?_) (fun c3 h=> ?_)
    ·obtain⟨x8,hx8,h⟩:=bd h
     exact rk hC ([oR rI hx7]++rF 3 c2++[oR rI hx7]++rF 4 c2++rF 4 c3++[oR rI hx7,oF c3,oF c3,oQ (fJ rB hx8),oF c3,oX rB hx8,oF c3]) (fr 15 22) [(36,vB x8)] [] [] (lE h)
    ·exact rk hC ([oR rI hx7]++rF 3 c2++[oR rI hx7]++rF 4 c2++rT 8 c3) (fr 15 22) [(36,vB true)] [] [] (lE h)
   ·exact rk hC ([oR rI hx7]++rT 7 c2++sT 8) (fr 15 22) [(36,vB true)] [] [] (lE h)
  ·refine aP h (fun c4 h=> ?_) (fun c4 h=> ?_)
   ·obtain rfl:=so h
    exact rq hC [] [4] [(4,vB false)] [] [] (qr eR)
   ·refine qk ?_
    obtain⟨x10,hx10,x11,hx11,x12,hx12,h⟩:=iZ h
    exact rk hC [oR rI hx10,oQ (fJ rB hx11),oX rB hx11,.z (.rows (List.map rB x12)),.z (.len 5 (List.map rB x12).length),oQ (str rB hx12),oQ (lJ rB hx12)] [5,37,38,39,40,41,42] [(5,ms 20 g4 1 rB x12)] [(20,some (ar 4 g4 1 rB x12))] [] (rk hC [] [6,13,14] [(6,vI (wr (x3+1)))] [] [] ⟨(x12,wr (x3+1)),g4,h,lS⟩)
 ·obtain rfl:=so h
  exact cO (rq hC [oN rI list] [4,43,44,45,46] [(4,vB (decide ((list.length:Int)=n_a1)))] [] [] (qr eR))
theorem L6{p}{order}{r}(h:jM n p order=some r):PQ G 94 [V.agg (bV p),vM rI order] (vB r):=by
 unfold jM at h
 refine pq aM Tryz.func94 rfl fun w X hC=> ?_
 refine rq hC [.z (.b (true))] [2,4] [(2,V.tp (bP p))] [] [] (vj h (fun x_=>aZ [(4,vB x_)] [] []) (fun j1 h=> ?_) (fun x5 h=> ?_))
 ·
  obtain⟨x2,hx2,h⟩:=bd h
  refine aQ h (fun c1 h=> ?_) (fun c1 h=> ?_)
  ·exact rk hC ([oV (dZ G hx2)]++rF 6 c1) (fr 4 10) [(4,vB false)] [] [] (lE h)
  ·obtain⟨x3,hx3,x4,hx4,h⟩:=dD h
   exact rk hC ([oV (dZ G hx2)]++rT 3 c1++[oC [] [20] (iS G hx3),oT c1,oN aJ x3,oT c1,oV (aCL G hx4),oT c1]) (fr 4 10) [(4,vB x4)] [(20,some (ar 38 1 3 aJ x3))] [(20,true)] (lE h)
 ·obtain rfl:=so h
  exact qr eR
theorem Z2{order}{r}(h:pY n order=some r):VQ G 103 [] [vM rI order] (ms 0 1 1 rI r) [ar 3 1 1 rI r]:=by
 unfold pY at h
 refine vq aM Tryz.func103 rfl fun w X β0 hC hg=> ?_
 refine rq hC [] [2] [] [] [] ?_
 obtain⟨x1,hx1,h⟩:=bd h
 refine rq hC [oN rI order,.z (.nat 20),oA (u5 rI hx1),oQ (mA hx1).1] [3,5,6,7] [(3,ms 20 1 1 rI x1)] [(20,some (ar 3 1 1 rI x1))] [(20,true)] (qs (rq hC [] [4] [(4,vI 0)] [] [] (qb (bD (γ:=Nat) h (fun x_ g_=>aZ [(0,vM rI order),(3,ms 20 g_ 1 rI x_.1),(4,vI x_.2)] [(20,ar 3 g_ 1 rI x_.1)] [20]) 1 (lS) ?_))))
 rintro again5 ⟨x2,x3⟩ g4 h
 refine qs (rq hC [oN rI order] (fr 8 4) [(11,vB (decide (x3<(order.length:Int))))] [] [] (aP h (fun c1 h=> ?_) (fun c1 h=> ?_)))
 ·refine qk (qs (qb ?_))
  obtain⟨x6,hx6,x7,hx7,x8,hx8,h⟩:=iZ h
  exact rk hC [oR rI hx6,oQ (fJ rI hx7),oX rI hx7,.z (.rows (List.map rI x8)),.z (.len 3 (List.map rI x8).length),oQ (str rI hx8),oQ (lJ rI hx8)] [3,14,15,16,17,18,19,20] [(3,ms 20 g4 1 rI x8)] [(20,some (ar 3 g4 1 rI x8))] [] (rk hC [] [4,12,13] [(4,vI (wr (x3+1)))] [] [] ⟨(x8,wr (x3+1)),g4,h,lS⟩)
 ·obtain rfl:=so h
  exact cO (rq hC [] [2,21] [(2,ms 20 g4 1 rI x2)] [] [] (qw (lk hC [.ren 2 20 0] [2] [(2,ms 0 1 1 rI x2)] [(0,some (ar 3 1 1 rI x2)),(20,none)] [(0,true)]) (qr eW)))
theorem s8(G:GS)(n:Nat)(s1:List Affine)(s2:List Affine)(eqF:FuncId)(eq:Affine→Affine→Option Bool)(heq: ∀(q0:Affine) (q1:Affine) r,eq q0 q1=some r→PQ G eqF [V.agg (bC q0),V.agg (bC q1)] (vB r)){r:Bool}(h:d7 n s1 s2 eq=some r):PQ G 211 [vM aB s1,vM aB s2,V.fn eqF []] (vB r):=by
 unfold d7 at h
 refine pq aM Tryz.func211 rfl fun w X hC=> ?_
 refine rq hC [] [6] [] [] [] (qs (rq hC [oN aB s1,oN aB s2] (fr 10 5) [(14,vB (!decide ((s1.length:Int)=(s2.length:Int))))] [] [] (aP h (fun c1 h=> ?_) (fun c1 h=> ?_))))
 ·obtain rfl:=so h
  exact rq hC [] [6] [(6,vB false)] [] [] (qr eR)
 ·refine qk (qs (rq hC [oN aB s1] [15,16,17] [(15,vM aB s1),(16,vI (s1.length:Int)),(17,vI 0)] [] [] (qb (jF h (fun x_=>aZ [(1,vM aB s2),(2,V.fn eqF []),(15,vM aB s1),(16,vI (s1.length:Int)),(17,vI x_)] [] []) lS ?_))))
  rintro again2 x1 h
  refine rq hC [] [18] [(18,vB (decide (x1<(s1.length:Int))))] [] [] (qs (aP h (fun c2 h=> ?_) (fun c2 h=> ?_)))
  ·refine qk (qs (qb ?_))
   obtain⟨x3,hx3,h⟩:=bd h
   refine rq hC [oR aB hx3,.z (.nat 20)] [7,8,19,20,21] [(7,vI x1),(8,V.ref 20 0)] [(20,some (E.cells (bC x3)))] [(20,true)] ?_
   obtain⟨x4,hx4,h⟩:=bd h
   refine rq hC [oR aB hx4,.z (.nat 21)] [9,22,23,24,25] [(9,V.ref 21 0)] [(21,some (E.cells (bC x4)))] [(21,true)] ?_
   obtain⟨x5,hx5,h⟩:=bd h
   refine rq hC [oV (heq x3 x4 _ hx5)] (fr 26 5) [(30,vB (!x5))] [] [] (aP h (fun c3 h=> ?_) (fun c3 h=> ?_))
   ·obtain rfl:=so h
    exact rq hC [] [6] [(6,vB false)] [] [] (qr eR)
   ·exact qk (rk hC [] [17,31] [(17,vI (wr (x1+1)))] [] [] (lE h))
  ·obtain rfl:=so h
   exact cO (rq hC [] [6] [(6,vB true)] [] [] (qr eR))
theorem uJ{s1}{s2}{r}(h:lK n s1 s2=some r):PQ G 118 [vM rI s1,vM rI s2] (vB r):=by
 unfold lK at h
 refine pq aM Tryz.func118 rfl fun w X hC=> ?_
 refine rq hC [] [4] [] [] [] (qs (rq hC [oN rI s1,oN rI s2] (fr 6 5) [(10,vB (!decide ((s1.length:Int)=(s2.length:Int))))] [] [] (aP h (fun c1 h=> ?_) (fun c1 h=> ?_))))
 ·obtain rfl:=so h
  exact rq hC [] [4] [(4,vB false)] [] [] (qr eR)
 ·refine qk (qs (rq hC [oN rI s1] [11,12,13] [(12,vI (s1.length:Int)),(13,vI 0)] [] [] (qb (jF h (fun x_=>aZ [(0,vM rI s1),(1,vM rI s2),(12,vI (s1.length:Int)),(13,vI x_)] [] []) lS ?_))))
  rintro again2 x1 h
  refine rq hC [] [14] [(14,vB (decide (x1<(s1.length:Int))))] [] [] (qs (aP h (fun c2 h=> ?_) (fun c2 h=> ?_)))
  ·refine qk (qs (qb (rq hC [] [5,15] [(5,vI x1)] [] [] (qs ?_))))
   obtain⟨x3,hx3,x4,hx4,h⟩:=dD h
   refine dk hC bI [oR rI hx3,oR rI hx4] (fr 16 9) [(24,vB (!decide (x3=x4)))] [] [] (aP h (fun c3 h=> ?_) (fun c3 h=> ?_))
   ·obtain rfl:=so h
    exact rq hC [] [4] [(4,vB false)] [] [] (qr eR)
   ·exact qk (rk hC [] [13,25] [(13,vI (wr (x1+1)))] [] [] (lE h))
  ·obtain rfl:=so h
   exact cO (rq hC [] [4] [(4,vB true)] [] [] (qr eR))
theorem M6(G:GS)(n:Nat)(a:Affine)(b:Affine){r:Bool}(h:eN n a b=some r):PQ G 212 [V.agg (bC a),V.agg (bC b)] (vB r):=by
 unfold eN at h
 refine pq aM Tryz.func212 rfl fun w X hC=> ?_
 refine rq hC [.z (.b (true)),.z (.b (true))] [2,3,4] [(2,V.tp (bK a)),(3,V.tp (bK b))] [] [] (vj h (fun x_=>aZ [(4,vB x_)] [] []) (fun j1 h=> ?_) (fun x3 h=> ?_))
 ·
  obtain⟨x2,hx2,h⟩:=bd h
  refine aQ h (fun c1 h=> ?_) (fun c1 h=> ?_)
  ·exact rk hC ([oV (uJ G hx2)]++rF 6 c1) (fr 4 13) [(4,vB false)] [] [] (lE h)
  ·exact rk hC ([oV (uJ G hx2)]++rT 6 c1) (fr 4 13) [(4,vB (decide (a.const=b.const)))] [] [] (lE h)
 ·obtain rfl:=so h
  exact qr eR
theorem tA{a}{b}{r}(h:fL n a b=some r):PQ G 186 [V.agg (cM a),V.agg (cM b)] (vB r):=by
 unfold fL at h
 refine pq aM Tryz.func186 rfl fun w X hC=> ?_
 refine rq hC [.z (.b (true)),.z (.b (true))] [2,3,4] [(2,V.tp (dE a)),(3,V.tp (dE b))] [] [] (vj h (fun x_=>aZ [(4,vB x_)] [] []) (fun j1 h=> ?_) (fun x3 h=> ?_))
 ·
  refine aQ h (fun c1 h=> ?_) (fun c1 h=> ?_)
  ·exact rk hC (rF 6 c1) (fr 4 13) [(4,vB false)] [] [] (lE h)
  ·obtain⟨x2,hx2,h⟩:=bd h
   exact rk hC (rT 5 c1++[oV (s8 G n a.subs b.subs 212 (fun q0 q1=>eN n q0 q1) (fun q0 q1 r h=>M6 G n q0 q1 h) hx2),oT c1]) (fr 4 13) [(4,vB x2)] [] [] (lE h)
 ·obtain rfl:=so h
  exact qr eR
theorem O6(G:GS)(n:Nat)(a:Access)(c0__a1:Stmt){r:Bool}(h:lN n a c0__a1=some r):PQ G 189 [V.agg (cM a),V.tp (l5 c0__a1)] (vB r):=by
 unfold lN at h
 refine pq aM Tryz.func189 rfl fun w X hC=> ?_
 obtain rfl:=so h
 exact rq hC [.z (.b (true))] [2,3] [(2,V.tp (dE a))] [] [] (rq hC [] (fr 3 7) [(3,vB (decide (a.array=c0__a1.write.array)))] [] [] (qr eR))
theorem pT(G:GS)(n:Nat)(s:List Access)(fF:FuncId)(fC0:List T)(f:Access→Option Bool)(hf: ∀(q0:Access) r,f q0=some r→PQ G fF [V.agg (cM q0),V.tp fC0] (vB r)){r:Int}(h:cZ n s f=some r):PQ G 245 [vM aR s,V.fn fF [V.tp fC0]] (vI r):=by
 unfold cZ at h
 refine pq aM Tryz.func245 rfl fun w X hC=> ?_
 refine rq hC [] [4] [] [] [] (qs (rq hC [oN aR s] [6,7,8] [(7,vI (s.length:Int)),(8,vI 0)] [] [] (qb (jF h (fun x_=>aZ [(0,vM aR s),(1,V.fn fF [V.tp fC0]),(7,vI (s.length:Int)),(8,vI x_)] [] []) lS ?_))))
 rintro again2 x1 h
 refine rq hC [] [9] [(9,vB (decide (x1<(s.length:Int))))] [] [] (qs (aP h (fun c1 h=> ?_) (fun c1 h=> ?_)))
 ·refine qk (qs (qb (rq hC [] [5,10] [(5,vI x1)] [] [] ?_)))
  obtain⟨x3,hx3,x4,hx4,h⟩:=dD h
  refine rq hC [oR aR hx3,oV (hf x3 _ hx4)] (fr 11 6) [(16,vB x4)] [] [] (aP h (fun c2 h=> ?_) (fun c2 h=> ?_))
  ·obtain rfl:=so h
   exact rq hC [] [4,17] [(4,vI x1)] [] [] (qr eR)
  ·exact qk (rk hC [] [8,18] [(8,vI (wr (x1+1)))] [] [] (lE h))
 ·obtain rfl:=so h
  exact cO (rq hC [] [4] [(4,vI (-1))] [] [] (qr eR))
theorem nQ(G:GS)(n:Nat)(s:List Access)(fF:FuncId)(fC0:List T)(f:Access→Option Bool)(hf: ∀(q0:Access) r,f q0=some r→PQ G fF [V.agg (cM q0),V.tp fC0] (vB r)){r:Bool}(h:bM n s f=some r):PQ G 187 [vM aR s,V.fn fF [V.tp fC0]] (vB r):=by
 unfold bM at h
 refine pq aM Tryz.func187 rfl fun w X hC=> ?_
 refine rq hC [] [4] [] [] [] ?_
 obtain⟨x1,hx1,h⟩:=bd h
 obtain rfl:=so h
 exact rq hC [oV (pT G n s fF fC0 f hf hx1)] (fr 4 5) [(4,vB (decide ((0:Int)≤x1)))] [] [] (qr eR)
theorem lW{s}{r}(h:mQ n s=some r):PQ G 99 [V.agg (eU s)] (vB r):=by
 unfold mQ at h
 refine pq aM Tryz.func99 rfl fun w X hC=> ?_
 refine rq hC [.z (.b (true))] [1,2] [(1,V.tp (l5 s))] [] [] (rq hC [.z (.nat 20)] [3,4,5] [(3,V.ref 20 0)] [(20,some (E.cells (eC s.value)))] [(20,true)] (qs (vj h (fun x_=>aZ [(1,V.tp (l5 s)),(3,V.ref 20 0),(32,vB x_)] [(20,E.cells (eC s.value))] [20]) (fun j1 h=> ?_) (fun x6 h=> ?_))))
 ·
  refine aQ h (fun c1 h=> ?_) (fun c1 h=> ?_)
  ·obtain⟨x2,hx2,h⟩:=bd h
   refine aQ h (fun c2 h=> ?_) (fun c2 h=> ?_)
   ·obtain⟨x3,hx3,h⟩:=bd h
    exact dk hC bI (rF 4 c1++[eF,eF,eF,.z (.row (cR x2)),oQ (cU aO hx2 (b7 x2))]++sF 4++rF 3 c2++[.z (.row (cR x2)),oQ (cU aO hx2 (b7 x2))]++rF 5 c2++[oV (tA G hx3),oF c2,oF c2]) (fr 6 27) [(32,vB (!x3))] [] [] (lE h)
   ·exact dk hC bI (rF 4 c1++[eF,eF,eF,.z (.row (cR x2)),oQ (cU aO hx2 (b7 x2))]++sF 4++rT 10 c2) (fr 6 27) [(32,vB true)] [] [] (lE h)
  ·refine aQ h (fun c3 h=> ?_) (fun c3 h=> ?_)
   ·obtain⟨x4,hx4,h⟩:=bd h
    refine aQ h (fun c4 h=> ?_) (fun c4 h=> ?_)
    ·obtain⟨x5,hx5,h⟩:=bd h
     exact dk hC bI (rT 4 c1++rF 3 c3++[.z (.row (cR x4)),oQ (cU aO hx4 (b7 x4))]++rF 4 c3++rF 3 c4++[.z (.row (cR x4)),oQ (cU aO hx4 (b7 x4))]++rF 5 c4++[oV (tA G hx5),oF c4,oF c4]) (fr 6 27) [(32,vB (!x5))] [] [] (lE h)
    ·exact dk hC bI (rT 4 c1++rF 3 c3++[.z (.row (cR x4)),oQ (cU aO hx4 (b7 x4))]++rF 4 c3++rT 10 c4) (fr 6 27) [(32,vB true)] [] [] (lE h)
   ·exact dk hC bI (rT 4 c1++rT 7 c3++sT 10) (fr 6 27) [(32,vB true)] [] [] (lE h)
 ·refine aP h (fun c5 h=> ?_) (fun c5 h=> ?_)
  ·obtain rfl:=so h
   exact rq hC [] [2] [(2,vB false)] [] [] (qr eR)
  ·refine qk ?_
   obtain⟨x7,hx7,x8,hx8,x9,hx9,h⟩:=iZ h
   obtain rfl:=so h
   exact rq hC [.z (.row (cR x7)),oQ (cU aO hx7 (b7 x7)),oC [] [21] (y5 G n x7 hx8),.z (.b (true)),oV (nQ G n x8 189 (l5 s) (fun q0=>lN n q0 s) (fun q0 r h=>O6 G n q0 s h) hx9)] [2,33,34,35,36,37,38,39,40] [(2,vB (!x9))] [(21,some (ar 107 1 2 aR x8))] [(21,true)] (qr eR)
abbrev tcT(t:Traced):List T:=[T.sl (List.map aN t.program.arrays),T.sl (List.map aE t.program.parts),T.sl (List.map aJ t.list),T.sl (List.map (rL rI) t.reads),T.sl (List.map rI t.writes)]
abbrev scS(s:Stmt):List V:=(eU s)
theorem y6(G:GS)(n:Nat)(t:Traced)(d:Dep){r:Bool}(h:gL n t d=some r):
  VQ G 97 [E.cells [V.tp (tcT t)]] [V.agg [vI d.fromF,vI d.toF,vI d.kinds],V.ref 0 0] (vB r) [E.cells [V.tp (tcT t)]]:=by
 unfold gL at h
 refine vq aM Tryz.func97 rfl fun w X β0 hC hg=> ?_
 refine rq hC [.z (.b (true))] [2,3] [(2,V.tp [T.int .i64 d.fromF,T.int .i64 d.toF,T.int .i64 d.kinds])] [] [] (qs ?_)
 obtain⟨x1,hx1,x2,hx2,x3,hx3,h⟩:=iZ h
 obtain⟨x4,hx4,h⟩:=bd h
 refine dk hC bI [oR aJ hx1,oV (iB G hx2),oR aJ hx3,oV (iB G hx4),.z (.nat 20),.z (.nat 21)] (fr 4 28) [(4,V.ref 20 0),(5,V.ref 21 0)] [(20,some (E.cells (scS x2))),(21,some (E.cells (scS x4)))] [(20,true),(21,true)] (qs ?_)
 obtain⟨x5,hx5,h⟩:=bd h
 refine aQ h (fun c1 h=> ?_) (fun c1 h=> ?_)
 ·obtain rfl:=so h
  exact rk hC ([oV (lW G hx5)]++rF 3 c1++sF 8) [3,32,33,34,35,36,37,38,39,40,41,42,43,44,45,46] [(3,vB false)] [] [] (qr eW)
 ·obtain⟨x6,hx6,h⟩:=bd h
  refine aQ h (fun c2 h=> ?_) (fun c2 h=> ?_)
  ·obtain rfl:=so h
   exact rk hC ([oV (lW G hx5),oT c1,oT c1,oV (lW G hx6),oT c1]++rF 8 c2) [3,32,33,34,35,36,37,38,39,40,41,42,43,44,45,46] [(3,vB false)] [] [] (qr eW)
  ·obtain rfl:=so h
   exact rk hC ([oV (lW G hx5),oT c1,oT c1,oV (lW G hx6),oT c1]++rT 8 c2) [3,32,33,34,35,36,37,38,39,40,41,42,43,44,45,46] [(3,vB (decide (x2.write.array=x4.write.array)))] [] [] (qr eW)
theorem t6(G:GS)(n:Nat)(s:List Dep)(fF:FuncId)(cs:List T)(f:Dep→Option Bool)(hf: ∀(q:Dep) {r:Bool},f q=some r→VQ G fF [E.cells [V.tp cs]] [V.agg [vI q.fromF,vI q.toF,vI q.kinds],V.ref 0 0] (vB r) [E.cells [V.tp cs]])(gs:Nat){r:Int}(h:cH n s f=some r):
  VQ G 185 [ar 100 gs 3 aV s,E.cells [V.tp cs]] [ms 0 gs 3 aV s,V.fn fF [V.ref 1 0]] (vI r) [ar 100 gs 3 aV s,E.cells [V.tp cs]]:=by
 unfold cH at h
 refine vq aM Tryz.func185 rfl fun w X β0 hC hg=> ?_
 refine rq hC [] [4] [] [] [] (qs (rq hC [oN aV s] [6,7,8] [(7,vI (s.length:Int)),(8,vI 0)] [] [] (qb (jF h (fun x_=>aZ [(0,ms 0 gs 3 aV s),(1,V.fn fF [V.ref 1 0]),(7,vI (s.length:Int)),(8,vI x_)] [(0,ar 100 gs 3 aV s),(1,E.cells [V.tp cs])] [0,1]) lS ?_))))
 rintro again2 x1 h
 refine rq hC [] [9] [(9,vB (decide (x1<(s.length:Int))))] [] [] (qs (aP h (fun c1 h=> ?_) (fun c1 h=> ?_)))
 ·refine qk (qs (qb (rq hC [] [5,10] [(5,vI x1)] [] [] ?_)))
  obtain⟨x3,hx3,x4,hx4,h⟩:=dD h
  refine rq hC [oQ (fJ aV hx3),oX aV hx3,oC [1] [] (hf x3 hx4)] (fr 11 6) [(16,vB x4)] [(1,sc [V.tp cs])] [(1,true)] (aP h (fun c2 h=> ?_) (fun c2 h=> ?_))
  ·obtain rfl:=so h
   exact rq hC [] [4,17] [(4,vI x1)] [] [] (qr eW)
  ·exact qk (rk hC [] [8,18] [(8,vI (wr (x1+1)))] [] [] (lE h))
 ·obtain rfl:=so h
  exact cO (rq hC [] [4] [(4,vI (-1))] [] [] (qr eW))
theorem vN(G:GS)(n:Nat)(s:List Dep)(fF:FuncId)(cs:List T)(f:Dep→Option Bool)(hf: ∀(q:Dep) {r:Bool},f q=some r→VQ G fF [E.cells [V.tp cs]] [V.agg [vI q.fromF,vI q.toF,vI q.kinds],V.ref 0 0] (vB r) [E.cells [V.tp cs]])(gs:Nat){r:Nat×List Dep}(h:fA n s f=some r):
  VQ G 95 [ar 100 gs 3 aV s,E.cells [V.tp cs]] [ms 0 gs 3 aV s,V.fn fF [V.ref 1 0]] (ms 0 gs 3 aV (r.2.take r.1)) [ar 100 gs 3 aV r.2,E.cells [V.tp cs]]:=by
 unfold fA at h
 refine vq aM Tryz.func95 rfl fun w X β0 hC hg=> ?_
 refine rq hC [] [4] [] [] [] ?_
 obtain⟨x1,hx1,h⟩:=bd h
 refine rq hC [oC [0,1] [] (t6 G n s fF cs f hf gs hx1)] [5,8,9,10] [(5,vI x1)] [(0,some (ar 100 gs 3 aV s)),(1,sc [V.tp cs])] [(0,true),(1,true)] (qs (rq hC [] [11,12] [(12,vB (decide (x1=(-1))))] [] [] (aP h (fun c1 h=> ?_) (fun c1 h=> ?_))))
 ·obtain rfl:=so h
  exact rq hC [.z (.at 0),.z (.len 4 (List.map aV (s.take s.length)).length),oQ (aJE aV s)] [4,13] [(4,ms 0 gs 3 aV (s.take s.length))] [] [] (qr eW)
 ·refine qk (qs (rq hC [] [6,14,15] [(6,vI (wr (x1+1)))] [] [] (qb (jF h (fun x_=>aZ [(0,ms 0 gs 3 aV x_.1.1),(1,V.fn fF [V.ref 1 0]),(5,vI x_.1.2),(6,vI x_.2)] [(0,ar 100 gs 3 aV x_.1.1),(1,E.cells [V.tp cs])] [0,1]) lS ?_))))
  rintro again2 ⟨⟨l,i⟩,k⟩ h
  refine qs (rq hC [oN aV l] (fr 16 4) [(19,vB (decide (k<(l.length:Int))))] [] [] (aP h (fun c2 h=> ?_) (fun c2 h=> ?_)))
  ·refine qk (qs (qb ?_))
   obtain⟨x3,hx3,h⟩:=bd h
   refine rq hC [oQ (fJ aV hx3),oX aV hx3,.z (.nat 20)] [7,22,23,24,25] [(7,V.ref 20 0)] [(20,sc [vI x3.fromF,vI x3.toF,vI x3.kinds])] [(20,true)] ?_
   obtain⟨x4,hx4,h⟩:=bd h
   refine rq hC [oC [1] [] (hf x3 hx4)] (fr 26 4) [(29,vB (!x4))] [(1,sc [V.tp cs])] [(1,true)] (aP h (fun c3 h=> ?_) (fun c3 h=> ?_))
   ·obtain⟨x5,hx5,x6,hx6,h⟩:=dD h
    exact rq hC [oQ (fJ aV hx5),oX aV hx5,.z (.rows (List.map aV x6)),.z (.len 0 (List.map aV x6).length),oQ (str aV hx6),oQ (lJ aV hx6)] [0,30,31,32,33] [(0,ms 0 gs 3 aV x6)] [(0,some (ar 100 gs 3 aV x6))] [] (rk hC [] [5,34,35] [(5,vI (wr (i+1)))] [] [] (rk hC [] [6,20,21] [(6,vI (wr (k+1)))] [] [] (lE h)))
   ·exact qk (rk hC [] [6,20,21] [(6,vI (wr (k+1)))] [] [] (lE h))
  ·refine cO (aQ h (fun c4 h=> ?_) (fun c4 h=> ?_))
   ·exact nof h
   ·refine aQ h (fun c5 h=> ?_) (fun c5 h=> ?_)
    ·exact nof h
    ·obtain rfl:=so h
     exact rq hC [.z (.nat i.toNat),.z (.nat (l.length-i.toNat)),.z (.rows (List.map aV (l.take i.toNat++List.replicate (l.length-i.toNat) (⟨0,0,0⟩:Dep)))),oQ (aE2 aV l (of_decide_eq_true c4) (of_decide_eq_true c5)),oQ (aEx aV l (⟨0,0,0⟩:Dep) (of_decide_eq_true c4) (of_decide_eq_true c5))] [36,37,38] [] [(0,some (ar 100 gs 3 aV (l.take i.toNat++List.replicate (l.length-i.toNat) (⟨0,0,0⟩:Dep))))] [] (rq hC [.z (.nat 0),.z (.nat (List.map aV ((l.take i.toNat++List.replicate (l.length-i.toNat) (⟨0,0,0⟩:Dep)).take i.toNat)).length),oQ (aIv aV l (⟨0,0,0⟩:Dep) (of_decide_eq_true c4) (of_decide_eq_true c5))] [4,39,40,41] [(4,ms 0 gs 3 aV ((l.take i.toNat++List.replicate (l.length-i.toNat) (⟨0,0,0⟩:Dep)).take i.toNat))] [] [] (qr eW))
theorem M2(G:GS)(n:Nat)(p:Prog){r:List Dep}(h:gZ n p=some r):PQ G 36 [V.agg (bV p)] (vM aV r):=by
 unfold gZ at h
 refine pq aM Tryz.func36 rfl fun w X hC=> ?_
 refine rq hC [.z (.b (true))] [1,2] [(1,V.tp (bP p))] [] [] (qs ?_)
 obtain⟨x1,hx1,h⟩:=bd h
 refine aQ h (fun c1 h=> ?_) (fun c1 h=> ?_)
 ·refine rk hC [.z (.v (V.tup [V.t T.nilP,vB x1.2])),.z (.nat 20),oQ (vPn c1 (T8 G hx1))] (fr 3 7) [(3,V.ref 20 0),(4,vB x1.2)] [(20,sc [V.t T.nilP])] [(20,true)] (qs (rq hC [] [10,11] [(11,vB (!x1.2))] [] [] (aP h (fun c2 h=> ?_) (fun c2 h=> ?_))))
  ·obtain rfl:=so h
   exact rq hC [] [2] [(2,V.t T.nilS)] [] [] (qr eR)
  ·exact nof h
 ·refine rk hC [.z (.v (V.tup [V.tp (tcT (x1.1.getD default)),vB x1.2])),.z (.nat 20),oQ (vPs c1 (T8 G hx1))] (fr 3 7) [(3,V.ref 20 0),(4,vB x1.2)] [(20,sc [V.tp (tcT (x1.1.getD default))])] [(20,true)] (qs (rq hC [] [10,11] [(11,vB (!x1.2))] [] [] (aP h (fun c2 h=> ?_) (fun c2 h=> ?_))))
  ·obtain rfl:=so h
   exact rq hC [] [2] [(2,V.t T.nilS)] [] [] (qr eR)
  ·refine qk ?_
   obtain⟨x2,hx2,x3,hx3,h⟩:=dD h
   obtain rfl:=so h
   exact rq hC [oC [] [21] (A9 G hx2),oC [21,20] [] (vN G n x2 97 (tcT (x1.1.getD default)) (fun q=>gL n (x1.1.getD default) q) (fun q _ hq=>y6 G n (x1.1.getD default) q hq) 1 hx3),.z (.cut 21 x3.1 (List.map aV (x3.2.take x3.1))),oQ (aKe aV x3.2 x3.1)] [2,12,13,14,15] [(2,ms 21 1 3 aV (x3.2.take x3.1))] [(21,some (ar 100 1 3 aV (x3.2.take x3.1))),(20,sc [V.tp (tcT (x1.1.getD default))])] [(21,true),(21,true),(20,true)] (qw (lk hC [.fz 21 [2] []] [2] [(2,vM aV (x3.2.take x3.1))] [(21,none)] []) (qr eR))
theorem aCY{a}{b}{r}(h:sK n a b=some r):PQ G 329 [vM rI a,vM rI b] (vB r):=by
 unfold sK at h
 refine pq aM Tryz.func329 rfl fun w X hC=> ?_
 refine rq hC [] [4] [] [] [] (qs (rq hC [oN rI a,oN rI b] (fr 6 5) [(10,vB (!decide ((a.length:Int)=(b.length:Int))))] [] [] (aP h (fun c1 h=> ?_) (fun c1 h=> ?_))))
 ·obtain rfl:=so h
  exact rq hC [] [4] [(4,vB false)] [] [] (qr eR)
 ·refine qk (qs (rq hC [] [5] [(5,vI 0)] [] [] (qb (jF h (fun x_=>aZ [(0,vM rI a),(1,vM rI b),(5,vI x_)] [] []) lS ?_))))
  rintro again2 x1 h
  refine qs (rq hC [oN rI a] (fr 11 4) [(14,vB (decide (x1<(a.length:Int))))] [] [] (aP h (fun c2 h=> ?_) (fun c2 h=> ?_)))
  ·refine qk (qs (qb (qs ?_)))
   obtain⟨x3,hx3,x4,hx4,h⟩:=dD h
   refine dk hC bI [oR rI hx3,oR rI hx4] (fr 17 9) [(25,vB (!decide (x3=x4)))] [] [] (aP h (fun c3 h=> ?_) (fun c3 h=> ?_))
   ·obtain rfl:=so h
    exact rq hC [] [4] [(4,vB false)] [] [] (qr eR)
   ·exact qk (rk hC [] [5,15,16] [(5,vI (wr (x1+1)))] [] [] (lE h))
  ·obtain rfl:=so h
   exact cO (rq hC [] [4] [(4,vB true)] [] [] (qr eR))
theorem L9{a}{b}{r}(h:gU n a b=some r):PQ G 317 [V.agg (bC a),V.agg (bC b)] (vB r):=by
 unfold gU at h
 refine pq aM Tryz.func317 rfl fun w X hC=> ?_
 refine rq hC [.z (.b (true)),.z (.b (true))] [2,3,4] [(2,V.tp (bK a)),(3,V.tp (bK b))] [] [] (vj h (fun x_=>aZ [(4,vB x_)] [] []) (fun j1 h=> ?_) (fun x3 h=> ?_))
 ·
  refine aQ h (fun c1 h=> ?_) (fun c1 h=> ?_)
  ·exact rk hC (rF 6 c1) (fr 4 13) [(4,vB false)] [] [] (lE h)
  ·obtain⟨x2,hx2,h⟩:=bd h
   exact rk hC (rT 5 c1++[oV (aCY G hx2),oT c1]) (fr 4 13) [(4,vB x2)] [] [] (lE h)
 ·obtain rfl:=so h
  exact qr eR
theorem L2{a}{b}{r}(h:jK n a b=some r):PQ G 285 [vM aB a,vM aB b] (vB r):=by
 unfold jK at h
 refine pq aM Tryz.func285 rfl fun w X hC=> ?_
 refine rq hC [] [4] [] [] [] (qs (rq hC [oN aB a,oN aB b] (fr 6 5) [(10,vB (!decide ((a.length:Int)=(b.length:Int))))] [] [] (aP h (fun c1 h=> ?_) (fun c1 h=> ?_))))
 ·obtain rfl:=so h
  exact rq hC [] [4] [(4,vB false)] [] [] (qr eR)
 ·refine qk (qs (rq hC [] [5] [(5,vI 0)] [] [] (qb (jF h (fun x_=>aZ [(0,vM aB a),(1,vM aB b),(5,vI x_)] [] []) lS ?_))))
  rintro again2 x1 h
  refine qs (rq hC [oN aB a] (fr 11 4) [(14,vB (decide (x1<(a.length:Int))))] [] [] (aP h (fun c2 h=> ?_) (fun c2 h=> ?_)))
  ·refine qk (qs (qb (qs ?_)))
   obtain⟨x3,hx3,x4,hx4,x5,hx5,h⟩:=iZ h
   refine dk hC bI [oR aB hx3,oR aB hx4,oV (L9 G hx5)] (fr 17 10) [(26,vB (!x5))] [] [] (aP h (fun c3 h=> ?_) (fun c3 h=> ?_))
   ·obtain rfl:=so h
    exact rq hC [] [4] [(4,vB false)] [] [] (qr eR)
   ·exact qk (rk hC [] [5,15,16] [(5,vI (wr (x1+1)))] [] [] (lE h))
  ·obtain rfl:=so h
   exact cO (rq hC [] [4] [(4,vB true)] [] [] (qr eR))
theorem pN{a}{b}{r}(h:gD n a b=some r):PQ G 246 [V.agg (cM a),V.agg (cM b)] (vB r):=by
 unfold gD at h
 refine pq aM Tryz.func246 rfl fun w X hC=> ?_
 refine rq hC [.z (.b (true)),.z (.b (true))] [2,3,4] [(2,V.tp (dE a)),(3,V.tp (dE b))] [] [] (vj h (fun x_=>aZ [(4,vB x_)] [] []) (fun j1 h=> ?_) (fun x3 h=> ?_))
 ·
  refine aQ h (fun c1 h=> ?_) (fun c1 h=> ?_)
  ·exact rk hC (rF 6 c1) (fr 4 13) [(4,vB false)] [] [] (lE h)
  ·obtain⟨x2,hx2,h⟩:=bd h
   exact rk hC (rT 5 c1++[oV (L2 G hx2),oT c1]) (fr 4 13) [(4,vB x2)] [] [] (lE h)
 ·obtain rfl:=so h
  exact qr eR
theorem aBt(G:GS): ∀(n:Nat) (e:Expr) (name:List UInt8) {r:Bool} (h:s_l12Uses n e name=some r),PQ G 247 [V.agg (eC e),vS name] (vB r):=by
 intro n
 induction n with
 |zero=>intro e name r h;rw [s_l12Uses.eq_def] at h;cases h
 |succ n ih=>
  intro e name r h
  rw [s_l12Uses.eq_def] at h;dsimp only at h
  refine pq aM Tryz.func247 rfl fun w X hC=> ?_
  refine rq hC [.z (.b (true))] [2,4] [(2,V.tp (iE e))] [] [] (qs (vj h (fun x_=>aZ [(1,vS name),(2,V.tp (iE e)),(15,vB x_)] [] []) (fun j1 h=> ?_) (fun x2 h=> ?_)))
  ·
   refine aQ h (fun c1 h=> ?_) (fun c1 h=> ?_)
   ·exact rk hC (rF 6 c1) (fr 6 10) [(15,vB false)] [] [] (lE h)
   ·exact rk hC (rT 6 c1) (fr 6 10) [(15,vB (decide (e.read.array=name)))] [] [] (lE h)
  ·refine aP h (fun c2 h=> ?_) (fun c2 h=> ?_)
   ·obtain rfl:=so h
    exact rq hC [] [4] [(4,vB true)] [] [] (qr eR)
   ·refine qk (qs (rq hC [] [5] [(5,vI 0)] [] [] (qb (jF h (fun x_=>aZ [(1,vS name),(2,V.tp (iE e)),(5,vI x_)] [] []) lS ?_))))
    rintro again4 x3 h
    refine qs (rq hC [oN aO e.kids] (fr 16 5) [(20,vB (decide (x3<(e.kids.length:Int))))] [] [] (aP h (fun c3 h=> ?_) (fun c3 h=> ?_)))
    ·refine qk (qs (qb ?_))
     obtain⟨x5,hx5,x6,hx6,h⟩:=dD h
     refine rq hC [.z (.row (cR x5)),oQ (cU aO hx5 (b7 x5)),oV (ih x5 name hx6)] (fr 23 7) [(29,vB x6)] [] [] (aP h (fun c4 h=> ?_) (fun c4 h=> ?_))
     ·obtain rfl:=so h
      exact rq hC [] [4] [(4,vB true)] [] [] (qr eR)
     ·exact qk (rk hC [] [5,21,22] [(5,vI (wr (x3+1)))] [] [] (lE h))
    ·obtain rfl:=so h
     exact cO (rq hC [] [4] [(4,vB false)] [] [] (qr eR))
theorem aEz{s}{r}(h:wD n s=some r):PQ G 190 [V.agg (eU s)] (vB r):=by
 unfold wD at h
 refine pq aM Tryz.func190 rfl fun w X hC=> ?_
 refine rq hC [.z (.b (true))] [1,2] [(1,V.tp (l5 s))] [] [] (rq hC [.z (.nat 20)] [3,5,6] [(3,V.ref 20 0)] [(20,some (E.cells (eC s.value)))] [(20,true)] (qs (vj h (fun x_=>aZ [(1,V.tp (l5 s)),(3,V.ref 20 0),(14,vB x_)] [(20,E.cells (eC s.value))] [20]) (fun j1 h=> ?_) (fun x2 h=> ?_))))
 ·
  refine aQ h (fun c1 h=> ?_) (fun c1 h=> ?_)
  ·exact rk hC (rF 4 c1) (fr 7 8) [(14,vB false)] [] [] (lE h)
  ·exact rk hC (rT 4 c1) (fr 7 8) [(14,vB (!decide (s.value.kind=5)))] [] [] (lE h)
 ·refine aP h (fun c2 h=> ?_) (fun c2 h=> ?_)
  ·obtain rfl:=so h
   exact rq hC [] [2] [(2,vB false)] [] [] (qr eR)
  ·refine qk ?_
   obtain⟨x3,hx3,h⟩:=bd h
   refine rq hC [.z (.row (cR x3)),.z (.nat 21),oQ (cU aO hx3 (b7 x3))] [4,15,16,17,18] [(4,V.ref 21 0)] [(21,some (E.cells (eC x3)))] [(21,true)] (vj h (fun x_=>aZ [(2,vB x_)] [(20,E.cells (eC s.value)),(21,E.cells (eC x3))] [20,21]) (fun j4 h=> ?_) (fun x8 h=> ?_))
   ·
    refine aQ h (fun c3 h=> ?_) (fun c3 h=> ?_)
    ·exact dk hC bI (rF 6 c3++sF 10) [2,19,20,21,22,23,24,25,26,27,28,29,30,31,32,33,34,35,36,37,38,39] [(2,vB false)] [] [] (lE h)
    ·obtain⟨x5,hx5,h⟩:=bd h
     refine aQ h (fun c4 h=> ?_) (fun c4 h=> ?_)
     ·exact dk hC bI (rT 5 c3++[oV (pN G hx5),oT c3]++rF 10 c4) [2,19,20,21,22,23,24,25,26,27,28,29,30,31,32,33,34,35,36,37,38,39] [(2,vB false)] [] [] (lE h)
     ·obtain⟨x6,hx6,x7,hx7,h⟩:=dD h
      exact dk hC bI (rT 5 c3++[oV (pN G hx5),oT c3]++rT 3 c4++[.z (.row (cR x6)),oQ (cU aO hx6 (b7 x6))]++rT 5 c4++[oV (aBt G n x6 s.write.array hx7),oT c4,oT c4]) [2,19,20,21,22,23,24,25,26,27,28,29,30,31,32,33,34,35,36,37,38,39] [(2,vB (!x7))] [] [] (lE h)
   ·obtain rfl:=so h
    exact qr eR
theorem Z5{p}{r}(h:nA n p=some r):VQ G 100 [] [V.agg (bV p)] (ms 0 1 1 rS r) [ar 9 1 1 rS r]:=by
 unfold nA at h
 refine vq aM Tryz.func100 rfl fun w X β0 hC hg=> ?_
 refine rq hC [.z (.b (true))] [1,2] [(1,V.tp (bP p))] [] [] (rq hC [.z (.nat 20)] [3,8] [(3,ms 20 1 1 rS [])] [(20,some (ar 9 1 1 rS []))] [(20,true)] ?_)
 obtain⟨x1,hx1,h⟩:=bd h
 refine rq hC [oC [] [21] (iS G hx1)] [4,9,10] [(4,ms 21 1 3 aJ x1)] [(21,some (ar 38 1 3 aJ x1))] [(21,true)] (qs (rq hC [] [5] [(5,vI 0)] [] [] (qb (bD (γ:=Nat) h (fun x_ g_=>aZ [(1,V.tp (bP p)),(3,ms 20 g_ 1 rS x_.1),(4,ms 21 1 3 aJ x1),(5,vI x_.2)] [(20,ar 9 g_ 1 rS x_.1),(21,ar 38 1 3 aJ x1)] [20,21]) 1 (lS) ?_))))
 rintro again5 ⟨x2,x3⟩ g4 h
 refine qs (rq hC [oN aJ x1] (fr 11 4) [(14,vB (decide (x3<(x1.length:Int))))] [] [] (aP h (fun c1 h=> ?_) (fun c1 h=> ?_)))
 ·refine qk (qs (qb (qs ?_)))
  obtain⟨x6,hx6,x7,hx7,x8,hx8,h⟩:=iZ h
  refine dk hC bI [oQ (fJ aJ hx6),oX aJ hx6,oR aE hx7,oQ (fJ aJ hx6),oX aJ hx6,oR aW hx8,.z (.nat 22)] [6,17,18,19,20,21,22,23,24,25,26,27,28,29,30,31,32,33] [(6,V.ref 22 0)] [(22,some (E.cells (eU x8)))] [(22,true)] (rq hC [] [7] [(7,vS [])] [] [] (vj h (fun x_=>aZ [(1,V.tp (bP p)),(3,ms 20 g4 1 rS x2),(4,ms 21 1 3 aJ x1),(5,vI x3),(7,vS x_)] [(20,ar 9 g4 1 rS x2),(21,ar 38 1 3 aJ x1),(22,E.cells (eU x8))] [20,21,22]) (fun j9 h=> ?_) (fun x11 h=> ?_)))
  ·
   obtain⟨x10,hx10,h⟩:=bd h
   refine rq hC [oV (aEz G hx10)] [34,35] [(35,vB x10)] [] [] (aP h (fun c2 h=> ?_) (fun c2 h=> ?_))
   ·exact rk hC [] [7,36,37,38] [(7,vS x8.write.array)] [] [] (lE h)
   ·exact qk (lE h)
  ·obtain⟨x12,hx12,h⟩:=bd h
   exact rk hC [.z (.int 0),oA (aT rS hx12),oQ (cL (r:=rS) 1 (fun _=>rfl) x2),oQ (cL (r:=rS) 1 (fun _=>rfl) [x11])] [3,39,40,41,42] [(3,ms 20 (g4+1) 1 rS x12)] [(20,some (ar 9 (g4+1) 1 rS x12))] [] (rk hC [] [5,15,16] [(5,vI (wr (x3+1)))] [] [] ⟨(x12,wr (x3+1)),(g4+1),h,lS⟩)
 ·obtain rfl:=so h
  exact cO (rq hC [] [2,43] [(2,ms 20 g4 1 rS x2)] [] [] (qw (lk hC [.ren 2 20 0] [2] [(2,ms 0 1 1 rS x2)] [(0,some (ar 9 1 1 rS x2)),(20,none)] [(0,true)]) (qr eW)))
theorem s5{p}{r}(h:gT n p=some r):VQ G 38 [] [V.agg (bV p)] (ms 0 1 3 aV r) [ar 100 1 3 aV r]:=by
 unfold gT at h
 refine vq aM Tryz.func38 rfl fun w X β0 hC hg=> ?_
 refine rq hC [.z (.b (true))] [1,2] [(1,V.tp (bP p))] [] [] (rq hC [.z (.nat 20)] [3,9] [(3,ms 20 1 3 aV [])] [(20,some (ar 100 1 3 aV []))] [(20,true)] (qs ?_))
 obtain⟨x1,hx1,h⟩:=bd h
 refine rq hC [oV (dZ G hx1)] [10,11,12] [(12,vB (!x1))] [] [] (aP h (fun c1 h=> ?_) (fun c1 h=> ?_))
 ·obtain rfl:=so h
  exact rq hC [] [2,13] [(2,ms 20 1 3 aV [])] [] [] (qw (lk hC [.ren 2 20 0] [2] [(2,ms 0 1 3 aV [])] [(0,some (ar 100 1 3 aV [])),(20,none)] [(0,true)]) (qr eW))
 ·refine qk ?_
  obtain⟨x2,hx2,h⟩:=bd h
  refine rq hC [oC [] [21] (Z5 G hx2)] [4,14,15] [(4,ms 21 1 1 rS x2)] [(21,some (ar 9 1 1 rS x2))] [(21,true)] ?_
  obtain⟨x3,hx3,h⟩:=bd h
  refine rq hC [oC [] [22] (aCK G hx3)] [5,16,17] [(5,ms 22 1 3 aV x3)] [(22,some (ar 100 1 3 aV x3))] [(22,true)] (qs (rq hC [] [6] [(6,vI 0)] [] [] (qb (bD (γ:=Nat) h (fun x_ g_=>aZ [(3,ms 20 g_ 3 aV x_.1),(4,ms 21 1 1 rS x2),(5,ms 22 1 3 aV x3),(6,vI x_.2)] [(20,ar 100 g_ 3 aV x_.1),(21,ar 9 1 1 rS x2),(22,ar 100 1 3 aV x3)] [20,21,22]) 1 (lS) ?_))))
  rintro again7 ⟨x4,x5⟩ g6 h
  refine qs (rq hC [oN aV x3] (fr 18 4) [(21,vB (decide (x5<(x3.length:Int))))] [] [] (aP h (fun c2 h=> ?_) (fun c2 h=> ?_)))
  ·refine qk ?_
   obtain⟨j8,hj8,h⟩:=wL h
   refine iT (γ:=Nat) (j:=j8) (r:=r) (fun x_ g_=>aZ [(3,ms 20 g_ 3 aV x_),(4,ms 21 1 1 rS x2),(5,ms 22 1 3 aV x3),(6,vI x5)] [(20,ar 100 g_ 3 aV x_),(21,ar 9 1 1 rS x2),(22,ar 100 1 3 aV x3)] [20,21,22]) ?_ ?_
   ·
    refine qb ?_
    obtain⟨x9,hx9,h⟩:=bd h
    refine rq hC [oQ (fJ aV hx9),oX aV hx9] [7,24,25,26,27,28] [(7,vI x9.fromF)] [] [] (rq hC [oQ (fJ aV hx9),oX aV hx9] [8,29,30,31,32,33] [(8,vI x9.toF)] [] [] (vj h (fun x_=>aZ [(3,ms 20 g6 3 aV x4),(4,ms 21 1 1 rS x2),(5,ms 22 1 3 aV x3),(6,vI x5),(49,vB x_)] [(20,ar 100 g6 3 aV x4),(21,ar 9 1 1 rS x2),(22,ar 100 1 3 aV x3)] [20,21,22]) (fun j10 h=> ?_) (fun x13 h=> ?_)))
    ·
     obtain⟨x11,hx11,h⟩:=bd h
     refine aQ h (fun c3 h=> ?_) (fun c3 h=> ?_)
     ·obtain⟨x12,hx12,h⟩:=bd h
      exact dk hC bI ([oQ (fJ rS hx11),oX rS hx11]++rF 3 c3++[oQ (fJ rS hx11),oF c3,oX rS hx11]++rF 3 c3++[oQ (fJ rS hx12),oF c3,oX rS hx12,oF c3,oF c3]) (fr 34 16) [(49,vB (!decide (x11=x12)))] [] [] (lE h)
     ·exact dk hC bI ([oQ (fJ rS hx11),oX rS hx11]++rT 10 c3) (fr 34 16) [(49,vB true)] [] [] (lE h)
    ·refine aP h (fun c4 h=> ?_) (fun c4 h=> ?_)
     ·obtain⟨x14,hx14,h⟩:=bd h
      exact rk hC [oQ (fJ aV hx9),oX aV hx9,.z (.int 0),oA (aT aV hx14),oQ (cL (r:=aV) 3 pB x4),oQ (cL (r:=aV) 3 pB [x9])] [3,50,51,52,53,54,55,56] [(3,ms 20 (g6+1) 3 aV x14)] [(20,some (ar 100 (g6+1) 3 aV x14))] [] ⟨x14,(g6+1),h,lS⟩
     ·exact qk ⟨x4,g6,h,lS⟩
   ·rintro x15 g16 h
    subst hj8
    exact rk hC [] [6,22,23] [(6,vI (wr (x5+1)))] [] [] ⟨(x15,wr (x5+1)),g16,h,lS⟩
  ·obtain rfl:=so h
   exact cO (rq hC [] [2,57] [(2,ms 20 g6 3 aV x4)] [] [] (qw (lk hC [.ren 2 20 0] [2] [(2,ms 0 1 3 aV x4)] [(0,some (ar 100 1 3 aV x4)),(20,none)] [(0,true)]) (qr eW)))
theorem y7{p}{order}{r}(h:gM n p order=some r):PQ G 39 [V.agg (bV p),vM rI order] (vB r):=by
 unfold gM at h
 refine pq aM Tryz.func39 rfl fun w X hC=> ?_
 refine rq hC [.z (.b (true))] [2,4] [(2,V.tp (bP p))] [] [] ?_
 obtain⟨x1,hx1,h⟩:=bd h
 obtain rfl:=so h
 exact rq hC [oV (aEA G n p order 36 (fun q0=>gZ n q0) (fun q0 r h=>M2 G n q0 h) hx1)] (fr 4 4) [(4,vB x1)] [] [] (qr eR)
theorem xA{s}{r}(h:qA n s=some r):VQ G 286 [] [vS s] (ms 0 1 1 rS r) [ar 9 1 1 rS r]:=by
 unfold qA at h
 refine vq aM Tryz.func286 rfl fun w X β0 hC hg=> ?_
 refine rq hC [] [2] [] [] [] ?_
 obtain⟨x1,hx1,h⟩:=bd h
 refine rq hC [oC [] [20] (vK G hx1)] [3,6,7] [(3,ms 20 1 1 rS x1)] [(20,some (ar 9 1 1 rS x1))] [(20,true)] (rq hC [.z (.nat 21)] [4,8] [(4,ms 21 1 1 rS [])] [(21,some (ar 9 1 1 rS []))] [(21,true)] (qs (rq hC [] [5] [(5,vI 0)] [] [] (qb (bD (γ:=Nat) h (fun x_ g_=>aZ [(3,ms 20 1 1 rS x1),(4,ms 21 g_ 1 rS x_.1),(5,vI x_.2)] [(20,ar 9 1 1 rS x1),(21,ar 9 g_ 1 rS x_.1)] [20,21]) 1 (lS) ?_)))))
 rintro again5 ⟨x2,x3⟩ g4 h
 refine qs (rq hC [oN rS x1] (fr 9 4) [(12,vB (decide (x3<(x1.length:Int))))] [] [] (aP h (fun c1 h=> ?_) (fun c1 h=> ?_)))
 ·refine qk ?_
  obtain⟨j6,hj6,h⟩:=wL h
  refine iT (γ:=Nat) (j:=j6) (r:=r) (fun x_ g_=>aZ [(3,ms 20 1 1 rS x1),(4,ms 21 g_ 1 rS x_),(5,vI x3)] [(20,ar 9 1 1 rS x1),(21,ar 9 g_ 1 rS x_)] [20,21]) ?_ ?_
  ·
   refine qb ?_
   obtain⟨x7,hx7,h⟩:=bd h
   refine rq hC [oQ (fJ rS hx7),oX rS hx7] (fr 15 5) [(19,vB (!decide (x7=[])))] [] [] (aP h (fun c2 h=> ?_) (fun c2 h=> ?_))
   ·obtain⟨x8,hx8,h⟩:=bd h
    exact rk hC [oQ (fJ rS hx7),oX rS hx7,.z (.int 0),oA (aT rS hx8),oQ (cL (r:=rS) 1 (fun _=>rfl) x2),oQ (cL (r:=rS) 1 (fun _=>rfl) [x7])] [4,20,21,22,23,24,25,26] [(4,ms 21 (g4+1) 1 rS x8)] [(21,some (ar 9 (g4+1) 1 rS x8))] [] ⟨x8,(g4+1),h,lS⟩
   ·exact qk ⟨x2,g4,h,lS⟩
  ·rintro x9 g10 h
   subst hj6
   exact rk hC [] [5,13,14] [(5,vI (wr (x3+1)))] [] [] ⟨(x9,wr (x3+1)),g10,h,lS⟩
 ·obtain rfl:=so h
  exact cO (rq hC [] [2,27] [(2,ms 21 g4 1 rS x2)] [] [] (qw (lk hC [.ren 2 21 0] [2] [(2,ms 0 1 1 rS x2)] [(0,some (ar 9 1 1 rS x2)),(21,none)] [(0,true)]) (qr eW)))
theorem aCW{line}{r}(h:D9 n line=some r):PQ G 288 [vS line] (V.agg (T9 r)):=by
 unfold D9 at h
 refine pq aM Tryz.func288 rfl fun w X hC=> ?_
 refine rq hC [.z (.nat 20)] [2] [(2,V.ref 20 0)] [(20,sc [V.t T.nilS,V.t T.nilS])] [(20,true)] ?_
 obtain⟨x1,hx1,h⟩:=bd h
 refine rq hC [oC [] [21] (xA G hx1)] [3,4,5] [(3,ms 21 1 1 rS x1)] [(21,some (ar 9 1 1 rS x1))] [(21,true)] (qs (rq hC [oN rS x1] [6,7,8] [(8,vB (!decide ((x1.length:Int)=3)))] [] [] (aP h (fun c1 h=> ?_) (fun c1 h=> ?_))))
 ·obtain rfl:=so h
  exact rq hC [] [9] [] [(20,sc [V.t T.nilS,V.t T.nilS])] [] (qr eR)
 ·refine qk (qs ?_)
  obtain⟨x2,hx2,x3,hx3,x4,hx4,h⟩:=iZ h
  obtain⟨x5,hx5,h⟩:=bd h
  obtain rfl:=so h
  exact dk hC bI [oQ (fJ rS hx2),oX rS hx2,oC [] [22] (l3 G hx3),oQ (fJ rS hx4),oX rS hx4,oC [] [23] (l3 G hx5)] (fr 10 9) [] [(22,some (ar 109 1 2 aB x3)),(23,some (ar 109 1 2 aB x5)),(20,sc [ms 22 1 2 aB x3,ms 23 1 2 aB x5])] [(22,true),(23,true)] (qw (lk hC [.fz 22 [] [20]] [] [] [(20,sc [vM aB x3,ms 23 1 2 aB x5]),(22,none)] []) (qw (lk hC [.fz 23 [] [20]] [] [] [(20,sc [vM aB x3,vM aB x5]),(23,none)] []) (qr eR)))
theorem aBj{w_a0}{r}(h:xV n w_a0=some r):PQ G 287 [vM rS w_a0] (V.agg [vS r.name,vM rI r.dims]):=by
 unfold xV at h
 refine pq aM Tryz.func287 rfl fun w X hC=> ?_
 refine rq hC [.z (.nat 20)] [2] [(2,V.ref 20 0)] [(20,sc [vS [],V.t T.nilS])] [(20,true)] (rq hC [.z (.nat 21)] [3,7] [(3,V.ref 21 0)] [(21,sc [vS [],V.t T.nilS])] [(21,true)] (qs (rq hC [] [4] [(4,vI 1)] [] [] (qb (qw (lk hC [.growc 21 1 22 3] [] [] [(22,some (ar 3 1 1 rI [])),(21,sc [vS [],ms 22 1 1 rI []])] [(22,true)]) ?_)))))
 refine bD (γ:=Nat) h (fun x_ g_=>aZ [(0,vM rS w_a0),(2,V.ref 20 0),(3,V.ref 21 0),(4,vI x_.2.2)] [(20,E.cells [vS [],V.t T.nilS]),(21,E.cells [vS x_.1,ms 22 g_ 1 rI x_.2.1]),(22,ar 3 g_ 1 rI x_.2.1)] [20,21,22]) 1 (lS) ?_
 rintro again5 ⟨x1,x2,x3⟩ g4 h
 refine qs (vj h (fun x_=>aZ [(0,vM rS w_a0),(2,V.ref 20 0),(3,V.ref 21 0),(4,vI x3),(15,vB x_)] [(20,E.cells [vS [],V.t T.nilS]),(21,E.cells [vS x1,ms 22 g4 1 rI x2]),(22,ar 3 g4 1 rI x2)] [20,21,22]) (fun j6 h=> ?_) (fun x7 h=> ?_))
 ·
  refine aQ h (fun c1 h=> ?_) (fun c1 h=> ?_)
  ·exact rk hC ([oN rS w_a0]++rF 3 c1) (fr 8 8) [(15,vB false)] [] [] (lE h)
  ·exact rk hC ([oN rS w_a0]++rT 3 c1) (fr 8 8) [(15,vB (decide (x3≤4)))] [] [] (lE h)
 ·refine aP h (fun c2 h=> ?_) (fun c2 h=> ?_)
  ·refine qk ?_
   obtain⟨j8,hj8,h⟩:=wL h
   refine iT (γ:=Nat) (j:=j8) (r:=r) (fun x_ g_=>aZ [(0,vM rS w_a0),(2,V.ref 20 0),(3,V.ref 21 0),(4,vI x3)] [(20,E.cells [vS [],V.t T.nilS]),(21,E.cells [vS x_.1,ms 22 g_ 1 rI x_.2]),(22,ar 3 g_ 1 rI x_.2)] [20,21,22]) ?_ ?_
   ·
    refine qb (qs (rq hC [] [18,19] [(19,vB (decide (x3=1)))] [] [] (aP h (fun c3 h=> ?_) (fun c3 h=> ?_))))
    ·obtain⟨x9,hx9,h⟩:=bd h
     exact rq hC [oR rS hx9] (fr 20 4) [] [(21,sc [vS x9,ms 22 g4 1 rI x2])] [] (cO ⟨(x9,x2),g4,h,lS⟩)
    ·refine qk ?_
     obtain⟨x10,hx10,x11,hx11,h⟩:=dD h
     refine rq hC [oR rS hx10,oV (L5 G hx11)] [5,6,24,25,26,27,28,29,30,31] [(5,vI x11.1)] [] [] ?_
     obtain⟨x12,hx12,h⟩:=bd h
     exact rk hC [.z (.int 0),oA (aT rI hx12),oQ (cL (r:=rI) 1 (fun _=>rfl) x2),oQ (cL (r:=rI) 1 (fun _=>rfl) [x11.1])] (fr 32 6) [] [(22,some (ar 3 (g4+1) 1 rI x12)),(21,sc [vS x1,ms 22 (g4+1) 1 rI x12])] [] ⟨(x1,x12),(g4+1),h,lS⟩
   ·rintro⟨x13,x14⟩ g15 h
    subst hj8
    exact rk hC [] [4,16,17] [(4,vI (wr (x3+1)))] [] [] ⟨(x13,x14,wr (x3+1)),g15,h,lS⟩
  ·obtain rfl:=so h
   exact cO (rq hC [.z (.at 2),.z (.fz 22 [] [21])] [38] [] [(21,sc [vS x1,vM rI x2]),(22,none),(20,sc [vS x1,vM rI x2])] [] (qr eR))
def sS:List Nd:=[⟨128,2,[(0,1),(1,2)]⟩,⟨147,2,[]⟩,⟨114,9,[]⟩]
theorem aCN(G:GS)(n:Nat)(p:Prog)(line:List UInt8)(g0 g1:Nat){r:Prog}(h:D7 n p line=some r):VQ G 249 [ar 134 g0 2 aN p.arrays,E.tree sS 0 g1 (List.map aE p.parts) []] [V.agg [ms 0 g0 2 aN p.arrays,ms 1 g1 2 aE p.parts],vS line] (V.agg [ms 0 (g0+1) 2 aN r.arrays,ms 1 (g1+1) 2 aE r.parts]) [ar 134 (g0+1) 2 aN r.arrays,E.tree sS 0 (g1+1) (List.map aE r.parts) []]:=by
 unfold D7 at h
 refine vq aM Tryz.func249 rfl fun w X β0 hC hg=> ?_
 refine rq hC [.z (.nat 20),.z (.nat 21)] [0,2,4] [(2,V.ref 20 0),(4,V.ref 21 0)] [(20,sc [ms 0 g0 2 aN p.arrays,ms 1 g1 2 aE p.parts]),(21,sc [V.t T.nilS,V.t T.nilS])] [(20,true),(21,true)] ?_
 obtain⟨x1,hx1,h⟩:=bd h
 refine rq hC [oC [] [22] (xA G hx1)] [5,11,12] [(5,ms 22 1 1 rS x1)] [(22,some (ar 9 1 1 rS x1))] [(22,true)] (rq hC [oN aE p.parts] [6,13,14,15,16] [(6,vI (wr ((p.parts.length:Int)-1)))] [] [] (qw (lk hC [.fz 22 [5] []] [5] [(5,vM rS x1)] [(22,none)] []) (qs (qb (vj h (fun x_=>aZ [(1,vS line),(2,V.ref 20 0),(4,V.ref 21 0),(5,vM rS x1),(6,vI (wr ((p.parts.length:Int)-1))),(17,vB x_)] [(0,ar 134 g0 2 aN p.arrays),(1,E.tree sS 0 g1 (List.map aE p.parts) []),(20,E.cells [ms 0 g0 2 aN p.arrays,ms 1 g1 2 aE p.parts]),(21,E.cells [V.t T.nilS,V.t T.nilS])] [0,1,20,21,22]) (fun j2 h=> ?_) (fun x4 h=> ?_))))))
 ·
  refine aQ h (fun c1 h=> ?_) (fun c1 h=> ?_)
  ·exact rk hC ([oN rS x1]++rF 5 c1) (fr 17 10) [(17,vB false)] [] [] (lE h)
  ·obtain⟨x3,hx3,h⟩:=bd h
   exact rk hC ([oN rS x1,oT c1,oT c1,oR rS hx3]++rT 3 c1) (fr 17 10) [(17,vB (decide (x3=[97,114,114,97,121])))] [] [] (lE h)
 ·refine aP h (fun c2 h=> ?_) (fun c2 h=> ?_)
  ·obtain⟨x5,hx5,x6,hx6,h⟩:=dD h
   obtain rfl:=so h
   exact dk hC bI [oV (aBj G hx5),.z (.int 0),oA (aT aN hx6),oQ (cL (r:=aN) 2 pC p.arrays),oQ (cL (r:=aN) 2 pC [x5])] (fr 27 7) [] [(0,some (ar 134 (g0+1) 2 aN x6)),(20,sc [ms 0 (g0+1) 2 aN x6,ms 1 g1 2 aE p.parts])] [] (rq hC [] [98] [] [(21,sc [ms 0 (g0+1) 2 aN x6,ms 1 g1 2 aE p.parts])] [] (qw (dL 21 1 1 g1 g1 2 0 (List.map aE p.parts).length (e:=E.tree sS 0 g1 (List.map aE p.parts) []) (cs:=[ms 0 (g0+1) 2 aN x6,ms 1 g1 2 aE p.parts]) rfl (by kernel_rfl) (by kernel_rfl) (by kernel_rfl) (by kernel_rfl) rfl rfl hg.2.1) (qr eW)))
  ·refine rq hC [] [34,35,36] [(34,vB (decide (line=[112,97,114,116])))] [] [] (aP h (fun c3 h=> ?_) (fun c3 h=> ?_))
   ·obtain⟨x7,hx7,h⟩:=bd h
    obtain rfl:=so h
    exact rk hC [.z (.at 4),.z (.growa 39 0 24 147),.z (.growa 39 1 25 114),.z (.lt 26 sS 0),.z (.rows (List.map aE (p.parts++[(⟨[],[]⟩:Part)]))),.z (.at 2),.z (.tre 24 sS 1),.z (.unf 1 24 (aE (⟨[],[]⟩:Part)) (List.map aE (p.parts++[(⟨[],[]⟩:Part)]))),.z (.tre 25 sS 2),.z (.unf 1 25 (aE (⟨[],[]⟩:Part)) (List.map aE x7)),.z (.len 41 (List.map aE x7).length),oQ (Eq.refl (ndOf sS 0)),oQ (aI4 aE (⟨[],[]⟩:Part) hx7),oQ (cL (r:=aE) 2 kL p.parts),oQ (cL (r:=aE) 2 kL [(⟨[],[]⟩:Part)]),oQ (Eq.refl (List.map aD []).length),oQ (Eq.refl sS),oQ (aFv aE p.parts (⟨[],[]⟩:Part)),oQ (aIH aE p.parts (ph:=(⟨[],[]⟩:Part)) (y:=(⟨[],[]⟩:Part)) rfl),oQ (Eq.refl (List.map aW []).length),oQ (Eq.refl sS),oQ (aFv aE p.parts (⟨[],[]⟩:Part)),oQ (aFn aE hx7 (ph:=(⟨[],[]⟩:Part)) rfl),oQ (aIK aE (⟨[],[]⟩:Part) hx7)] (fr 37 6) [] [(24,none),(25,none),(26,some (E.tree sS 0 1 (List.map aE [(⟨[],[]⟩:Part)]) [(0,0,ms 24 1 2 aD []),(0,1,ms 25 1 9 aW [])])),(1,some (E.tree sS 0 (g1+1) (List.map aE x7) [])),(20,sc [ms 0 g0 2 aN p.arrays,ms 1 (g1+1) 2 aE x7])] [(24,true),(25,true),(26,true)] (rq hC [] [98] [] [(21,sc [ms 0 g0 2 aN p.arrays,ms 1 (g1+1) 2 aE x7])] [] (qw (dL 21 0 0 g0 g0 2 0 (List.map aN p.arrays).length (e:= .arr 134 g0 2 (List.map aN p.arrays)) (cs:=[ms 0 g0 2 aN p.arrays,ms 1 (g1+1) 2 aE x7]) rfl (by kernel_rfl) (by kernel_rfl) (by kernel_rfl) (by kernel_rfl) rfl rfl hg.1) (qr eW)))
   ·refine vj h (fun x_=>aZ [(1,vS line),(2,V.ref 20 0),(4,V.ref 21 0),(6,vI (wr ((p.parts.length:Int)-1))),(43,vB x_)] [(0,ar 134 g0 2 aN p.arrays),(1,E.tree sS 0 g1 (List.map aE p.parts) []),(20,E.cells [ms 0 g0 2 aN p.arrays,ms 1 g1 2 aE p.parts]),(21,E.cells [V.t T.nilS,V.t T.nilS])] [0,1,20,21,22]) (fun j6 h=> ?_) (fun x8 h=> ?_)
    ·
     refine aQ h (fun c4 h=> ?_) (fun c4 h=> ?_)
     ·exact rk hC (rF 4 c4++sF 5) (fr 43 14) [(43,vB false)] [] [] (lE h)
     ·refine aQ h (fun c5 h=> ?_) (fun c5 h=> ?_)
      ·exact rk hC ([oT c4,oT c4,oN rS x1,oT c4,oT c4]++rF 5 c5) (fr 43 14) [(43,vB false)] [] [] (lE h)
      ·obtain⟨x7,hx7,h⟩:=bd h
       exact rk hC ([oT c4,oT c4,oN rS x1,oT c4,oT c4,oT c5,oT c5,oR rS hx7]++rT 3 c5) (fr 43 14) [(43,vB (decide (x7=[102,111,114])))] [] [] (lE h)
    ·refine aP h (fun c6 h=> ?_) (fun c6 h=> ?_)
     ·obtain⟨x9,hx9,h⟩:=bd h
      refine rq hC [.z (.foc 1 24 (0+Int.toNat (wr ((p.parts.length:Int)-1))) 0 (aE x9)),.z (.foc 1 25 (0+Int.toNat (wr ((p.parts.length:Int)-1))) 1 (aE x9)),oX aE hx9,.z (.nat 23),oQ (ixr aE hx9),oQ (fJ aE hx9),oQ (ixr aE hx9)] [7,57,58,59,60,61] [(7,V.ref 23 0)] [(1,some (E.tree sS 0 g1 (List.map aE p.parts) [((0+Int.toNat (wr ((p.parts.length:Int)-1))),1,ms 25 1 9 aW x9.body),((0+Int.toNat (wr ((p.parts.length:Int)-1))),0,ms 24 1 2 aD x9.nest)])),(24,some (E.tree sS 1 1 (List.map aD x9.nest) [])),(25,some (E.tree sS 2 1 (List.map aW x9.body) [])),(23,sc [ms 24 1 2 aD x9.nest,ms 25 1 9 aW x9.body])] [(24,true),(25,true),(23,true)] (qw (lk hC [.shd 24] [] [] [(24,some (ar 147 1 2 aD x9.nest))] []) (qs ?_))
      obtain⟨x10,hx10,x13,hx13,x14,hx14,h⟩:=iZ h
      obtain rfl:=so h
      exact dk hC bI [oV (aCW G hx10),.z (.int 0),oA (aT aD hx13),oQ (cL (r:=aD) 2 fT x9.nest),oQ (cL (r:=aD) 2 fT [x10])] (fr 62 7) [] [(24,some (ar 147 2 2 aD x13)),(23,sc [ms 24 2 2 aD x13,ms 25 1 9 aW x9.body])] [] (rk hC [oQ (fJ aE hx9),oX aE hx9,.z (.unf 1 25 (aE x9) (List.map aE p.parts)),.z (.tre 24 sS 1),.z (.unf 1 24 (aE x9) (List.map aE x14)),.z (.lenc 20 1 (List.map aE x14).length),oQ (Eq.refl (List.map aW x9.body).length),oQ (Eq.refl sS),oQ (ixr aE hx9),oQ (aFp aE hx9 rfl),oQ (Eq.refl (List.map aD x13).length),oQ (Eq.refl sS),oQ (ixr aE hx9),oQ (aFo aE hx14 rfl),oQ (lJ aE hx14)] (fr 69 5) [] [(24,none),(25,none),(1,some (E.tree sS 0 g1 (List.map aE x14) [])),(20,sc [ms 0 g0 2 aN p.arrays,ms 1 g1 2 aE x14])] [] (rq hC [] [98] [] [(21,sc [ms 0 g0 2 aN p.arrays,ms 1 g1 2 aE x14])] [] (qw (dL 21 0 0 g0 g0 2 0 (List.map aN p.arrays).length (e:= .arr 134 g0 2 (List.map aN p.arrays)) (cs:=[ms 0 g0 2 aN p.arrays,ms 1 g1 2 aE x14]) rfl (by kernel_rfl) (by kernel_rfl) (by kernel_rfl) (by kernel_rfl) rfl rfl hg.1) (qw (dL 21 1 1 g1 g1 2 0 (List.map aE x14).length (e:=E.tree sS 0 g1 (List.map aE x14) []) (cs:=[ms 0 (g0+1) 2 aN p.arrays,ms 1 g1 2 aE x14]) rfl (by kernel_rfl) (by kernel_rfl) (by kernel_rfl) (by kernel_rfl) rfl rfl hg.2.1) (qr eW)))))
     ·refine rq hC [] [74,75,76] [(74,vB (decide ((0:Int)≤wr ((p.parts.length:Int)-1))))] [] [] (aP h (fun c7 h=> ?_) (fun c7 h=> ?_))
      ·obtain⟨x11,hx11,h⟩:=bd h
       refine rq hC [.z (.foc 1 25 (0+Int.toNat (wr ((p.parts.length:Int)-1))) 1 (aE x11)),.z (.foc 1 26 (0+Int.toNat (wr ((p.parts.length:Int)-1))) 0 (aE x11)),oX aE hx11,.z (.nat 23),oQ (ixr aE hx11),oQ (fJ aE hx11),oQ (ixr aE hx11)] [8,77,78,79,80,81] [(8,V.ref 23 0)] [(1,some (E.tree sS 0 g1 (List.map aE p.parts) [((0+Int.toNat (wr ((p.parts.length:Int)-1))),0,ms 26 1 2 aD x11.nest),((0+Int.toNat (wr ((p.parts.length:Int)-1))),1,ms 25 1 9 aW x11.body)])),(25,some (E.tree sS 2 1 (List.map aW x11.body) [])),(26,some (E.tree sS 1 1 (List.map aD x11.nest) [])),(23,sc [ms 26 1 2 aD x11.nest,ms 25 1 9 aW x11.body])] [(25,true),(26,true),(23,true)] (qw (lk hC [.shd 25] [] [] [(25,some (ar 114 1 9 aW x11.body))] []) ?_)
       obtain⟨x12,hx12,h⟩:=bd h
       refine rq hC [oV (uH G hx12),.z (.nat 24)] [9,10,82,83,84,85,86] [(9,V.ref 24 0)] [(24,some (E.cells (eU x12.1)))] [(24,true)] ?_
       obtain⟨x15,hx15,x16,hx16,h⟩:=dD h
       obtain rfl:=so h
       exact rq hC [.z (.int 0),oA (aT aW hx15),oQ (cL (r:=aW) 9 mM x11.body),oQ (cL (r:=aW) 9 mM [x12.1])] (fr 87 6) [] [(25,some (ar 114 2 9 aW x15)),(23,sc [ms 26 1 2 aD x11.nest,ms 25 2 9 aW x15])] [] (rk hC [oQ (fJ aE hx11),oX aE hx11,.z (.unf 1 26 (aE x11) (List.map aE p.parts)),.z (.tre 25 sS 2),.z (.unf 1 25 (aE x11) (List.map aE x16)),.z (.lenc 20 1 (List.map aE x16).length),oQ (Eq.refl (List.map aD x11.nest).length),oQ (Eq.refl sS),oQ (ixr aE hx11),oQ (aFp aE hx11 rfl),oQ (Eq.refl (List.map aW x15).length),oQ (Eq.refl sS),oQ (ixr aE hx11),oQ (aFo aE hx16 rfl),oQ (lJ aE hx16)] (fr 93 5) [] [(25,none),(26,none),(1,some (E.tree sS 0 g1 (List.map aE x16) [])),(20,sc [ms 0 g0 2 aN p.arrays,ms 1 g1 2 aE x16])] [] (rq hC [] [98] [] [(21,sc [ms 0 g0 2 aN p.arrays,ms 1 g1 2 aE x16])] [] (qw (dL 21 0 0 g0 g0 2 0 (List.map aN p.arrays).length (e:= .arr 134 g0 2 (List.map aN p.arrays)) (cs:=[ms 0 g0 2 aN p.arrays,ms 1 g1 2 aE x16]) rfl (by kernel_rfl) (by kernel_rfl) (by kernel_rfl) (by kernel_rfl) rfl rfl hg.1) (qw (dL 21 1 1 g1 g1 2 0 (List.map aE x16).length (e:=E.tree sS 0 g1 (List.map aE x16) []) (cs:=[ms 0 (g0+1) 2 aN p.arrays,ms 1 g1 2 aE x16]) rfl (by kernel_rfl) (by kernel_rfl) (by kernel_rfl) (by kernel_rfl) rfl rfl hg.2.1) (qr eW)))))
      ·obtain rfl:=so h
       exact qk (rq hC [] [98] [] [(21,sc [ms 0 g0 2 aN p.arrays,ms 1 g1 2 aE p.parts])] [] (qw (dL 21 0 0 g0 g0 2 0 (List.map aN p.arrays).length (e:= .arr 134 g0 2 (List.map aN p.arrays)) (cs:=[ms 0 g0 2 aN p.arrays,ms 1 g1 2 aE p.parts]) rfl (by kernel_rfl) (by kernel_rfl) (by kernel_rfl) (by kernel_rfl) rfl rfl hg.1) (qw (dL 21 1 1 g1 g1 2 0 (List.map aE p.parts).length (e:=E.tree sS 0 g1 (List.map aE p.parts) []) (cs:=[ms 0 (g0+1) 2 aN p.arrays,ms 1 g1 2 aE p.parts]) rfl (by kernel_rfl) (by kernel_rfl) (by kernel_rfl) (by kernel_rfl) rfl rfl hg.2.1) (qr eW))))
theorem aCT{nest}{r}(h:D8 n nest=some r):PQ G 290 [vM aD nest] (vS r):=by
 unfold D8 at h
 refine pq aM Tryz.func290 rfl fun w X hC=> ?_
 refine rq hC [] [2] [] [] [] (rq hC [] [3] [(3,vS [])] [] [] (qs (rq hC [] [4] [(4,vI 0)] [] [] (qb (jF h (fun x_=>aZ [(0,vM aD nest),(3,vS x_.1),(4,vI x_.2)] [] []) lS ?_)))))
 rintro again3 ⟨x1,x2⟩ h
 refine qs (rq hC [oN aD nest] (fr 5 4) [(8,vB (decide (x2<(nest.length:Int))))] [] [] (aP h (fun c1 h=> ?_) (fun c1 h=> ?_)))
 ·refine qk (qs (qb ?_))
  obtain⟨x4,hx4,x5,hx5,x6,hx6,h⟩:=iZ h
  obtain⟨x7,hx7,x8,hx8,x9,hx9,h⟩:=iZ h
  obtain⟨x10,hx10,x11,hx11,h⟩:=dD h
  exact dk hC bI [oS hx4,oR aD hx5,oV (nN G hx6),oS hx7,oS hx8,oR aD hx5,oV (nN G hx9),oS hx10,oS hx11] [3,11,12,13,14,15,16,17,18,19,20,21,22,23,24,25,26,27,28] [(3,vS x11)] [] [] (rk hC [] [4,9,10] [(4,vI (wr (x2+1)))] [] [] (lE h))
 ·obtain rfl:=so h
  exact cO (rq hC [] [2,29] [(2,vS x1)] [] [] (qr eR))
theorem xB{p}{r}(h:lY n p=some r):PQ G 250 [V.agg (bV p)] (vS r):=by
 unfold lY at h
 refine pq aM Tryz.func250 rfl fun w X hC=> ?_
 refine rq hC [.z (.b (true))] [1,2] [(1,V.tp (bP p))] [] [] (qs ?_)
 obtain⟨x1,hx1,h⟩:=bd h
 refine rq hC [oV (dZ G hx1)] [9,10,11] [(11,vB (!x1))] [] [] (aP h (fun c1 h=> ?_) (fun c1 h=> ?_))
 ·obtain rfl:=so h
  exact rq hC [] [2] [(2,vS [])] [] [] (qr eR)
 ·refine qk (rq hC [] [3] [(3,vS [112,114,111,103,114,97,109,10])] [] [] (qs (rq hC [] [4] [(4,vI 0)] [] [] (qb (jF h (fun x_=>aZ [(1,V.tp (bP p)),(3,vS x_.1),(4,vI x_.2)] [] []) lS ?_)))))
  rintro again4 ⟨x2,x3⟩ h
  refine qs (rq hC [oN aN p.arrays] (fr 12 5) [(16,vB (decide (x3<(p.arrays.length:Int))))] [] [] (aP h (fun c2 h=> ?_) (fun c2 h=> ?_)))
  ·refine qk (qs (qb ?_))
   obtain⟨x5,hx5,x6,hx6,x7,hx7,h⟩:=iZ h
   refine rq hC [oS hx5,oR aN hx6,oS hx7] [3,19,20,21,22,23,24,25,26,27] [(3,vS x7)] [] [] (qs (rq hC [] [5] [(5,vI 0)] [] [] (qb (jF h (fun x_=>aZ [(1,V.tp (bP p)),(3,vS x_.1),(4,vI x3),(5,vI x_.2)] [] []) lS ?_))))
   rintro again10 ⟨x8,x9⟩ h
   refine qs (rq hC [oR aN hx6,oN rI x6.dims] (fr 28 9) [(36,vB (decide (x9<(x6.dims.length:Int))))] [] [] (aP h (fun c3 h=> ?_) (fun c3 h=> ?_)))
   ·refine qk (qs (qb ?_))
    obtain⟨x11,hx11,x12,hx12,x13,hx13,h⟩:=iZ h
    obtain⟨x14,hx14,h⟩:=bd h
    exact rk hC [oS hx11,oR aN hx6,oR rI hx12,oV (qV G n x12 hx13),oS hx14] [3,39,40,41,42,43,44,45,46,47,48,49,50,51] [(3,vS x14)] [] [] (rk hC [] [5,37,38] [(5,vI (wr (x9+1)))] [] [] (lE h))
   ·refine cO ?_
    obtain⟨x15,hx15,h⟩:=bd h
    exact rk hC [oS hx15] [3,52,53] [(3,vS x15)] [] [] (rk hC [] [4,17,18] [(4,vI (wr (x3+1)))] [] [] (lE h))
  ·refine cO (qs (rq hC [] [6] [(6,vI 0)] [] [] (qb (jF h (fun x_=>aZ [(1,V.tp (bP p)),(3,vS x_.1),(6,vI x_.2)] [] []) lS ?_))))
   rintro again18 ⟨x16,x17⟩ h
   refine qs (rq hC [oN aE p.parts] (fr 54 5) [(58,vB (decide (x17<(p.parts.length:Int))))] [] [] (aP h (fun c4 h=> ?_) (fun c4 h=> ?_)))
   ·refine qk (qs (qb ?_))
    obtain⟨x19,hx19,x20,hx20,x21,hx21,h⟩:=iZ h
    obtain⟨x22,hx22,h⟩:=bd h
    refine rq hC [oS hx19,oR aE hx20,oV (aCT G hx21),oS hx22] [3,61,62,63,64,65,66,67,68,69,70] [(3,vS x22)] [] [] (rq hC [] [7] [(7,vI 0)] [] [] (qb (jF h (fun x_=>aZ [(1,V.tp (bP p)),(3,vS x_.1),(6,vI x17),(7,vI x_.2)] [] []) lS ?_)))
    rintro again25 ⟨x23,x24⟩ h
    refine qs (rq hC [oR aE hx20,oN aW x20.body] (fr 71 9) [(79,vB (decide (x24<(x20.body.length:Int))))] [] [] (aP h (fun c5 h=> ?_) (fun c5 h=> ?_)))
    ·refine qk (qs (qb ?_))
     obtain⟨x26,hx26,h⟩:=bd h
     refine rq hC [oR aE hx20,oR aW hx26,.z (.nat 20)] [8,82,83,84,85,86,87,88,89,90] [(8,V.ref 20 0)] [(20,some (E.cells (eU x26)))] [(20,true)] ?_
     obtain⟨x27,hx27,x28,hx28,x29,hx29,h⟩:=iZ h
     obtain⟨x30,hx30,x31,hx31,x32,hx32,h⟩:=iZ h
     exact dk hC bI [oV (kU G hx27),oS hx28,oS hx29,oV (K7 G n x26.value hx30),oS hx31,oS hx32] [3,91,92,93,94,95,96,97,98,99,100,101] [(3,vS x32)] [] [] (rk hC [] [7,80,81] [(7,vI (wr (x24+1)))] [] [] (lE h))
    ·exact cO (rk hC [] [6,59,60] [(6,vI (wr (x17+1)))] [] [] (lE h))
   ·obtain rfl:=so h
    exact cO (rq hC [] [2,102] [(2,vS x16)] [] [] (qr eR))
theorem pQ{text}{r}(h:dI n text=some r):PQ G 191 [vS text] (V.tup [V.agg (bV r.1),vB r.2]):=by
 unfold dI at h
 refine pq aM Tryz.func191 rfl fun w X hC=> ?_
 refine rq hC [.z (.nat 20)] [2,3] [(2,V.ref 20 0)] [(20,sc [V.t T.nilS,V.t T.nilS])] [(20,true)] ?_
 obtain⟨x1,hx1,h⟩:=bd h
 refine rq hC [oC [] [21] (vK G hx1)] [4,7,8] [(4,ms 21 1 1 rS x1)] [(21,some (ar 9 1 1 rS x1))] [(21,true)] (rq hC [.z (.nat 22)] [5,9] [(5,V.ref 22 0)] [(22,sc [V.t T.nilS,V.t T.nilS])] [(22,true)] (qs (rq hC [oN rS x1] [10,11,12] [(12,vB (decide ((42:Int)<(x1.length:Int))))] [] [] (aP h (fun c1 h=> ?_) (fun c1 h=> ?_)))))
 ·obtain rfl:=so h
  exact rq hC [] [3,13] [(3,vB false)] [(20,sc [V.t T.nilS,V.t T.nilS])] [] (qr eR)
 ·refine qk (qs (rq hC [] [6] [(6,vI 1)] [] [] (qb (qw (lk hC [.growc 22 0 23 134,.growc 22 1 24 128,.tre 24 sS 0] [] [] [(23,some (ar 134 1 2 aN [])),(24,some (E.tree sS 0 1 (List.map aE []) [])),(22,sc [ms 23 1 2 aN [],ms 24 1 2 aE []])] [(23,true),(24,true)]) (bD (γ:=Nat×Nat) h (fun x_ g_=>aZ [(0,vS text),(2,V.ref 20 0),(4,ms 21 1 1 rS x1),(5,V.ref 22 0),(6,vI x_.2.2)] [(20,E.cells [V.t T.nilS,V.t T.nilS]),(21,ar 9 1 1 rS x1),(22,E.cells [ms 23 g_.1 2 aN x_.1,ms 24 g_.2 2 aE x_.2.1]),(23,ar 134 g_.1 2 aN x_.1),(24,E.tree sS 0 g_.2 (List.map aE x_.2.1) [])] [20,21,22,23,24]) (1,1) (lS) ?_)))))
  rintro again5 ⟨x2,x3,x4⟩ ⟨g5,g6⟩ h
  refine qs (rq hC [oN rS x1] (fr 14 5) [(18,vB (decide (wr (x4+1)<(x1.length:Int))))] [] [] (aP h (fun c2 h=> ?_) (fun c2 h=> ?_)))
  ·refine qk (qs (qb ?_))
   obtain⟨x6,hx6,x7,hx7,h⟩:=dD h
   exact dk hC bI [oQ (fJ rS hx6),oX rS hx6,oC [23,24] [] (aCN G n (⟨x2,x3⟩:Prog) x6 g5 g6 hx7)] (fr 21 6) [] [(23,some (ar 134 (g5+1) 2 aN x7.arrays)),(24,some (E.tree sS 0 (g6+1) (List.map aE x7.parts) [])),(22,sc [ms 23 (g5+1) 2 aN x7.arrays,ms 24 (g6+1) 2 aE x7.parts])] [(23,true),(24,true)] (rk hC [] [6,19,20] [(6,vI (wr (x4+1)))] [] [] ⟨(x7.arrays,x7.parts,wr (x4+1)),(g5+1,g6+1),h,lS⟩)
  ·refine cO (qs (vj h (fun x_=>aZ [(2,V.ref 20 0),(5,V.ref 22 0),(34,vB x_)] [(20,E.cells [V.t T.nilS,V.t T.nilS]),(21,ar 9 1 1 rS x1),(22,E.cells [ms 23 g5 2 aN x2,ms 24 g6 2 aE x3]),(23,ar 134 g5 2 aN x2),(24,E.tree sS 0 g6 (List.map aE x3) [])] [20,21,22,23,24]) (fun j8 h=> ?_) (fun x10 h=> ?_)))
   ·
    refine aQ h (fun c3 h=> ?_) (fun c3 h=> ?_)
    ·obtain⟨x9,hx9,h⟩:=bd h
     exact rk hC ([oF c3,oF c3,.z (.b true),.z (.nat 23),.z (.nat 24),oV (xB G hx9)]++rF 3 c3) (fr 27 8) [(34,vB (!decide (x9=text)))] [] [] (lE h)
    ·exact rk hC (rT 5 c3) (fr 27 8) [(34,vB true)] [] [] (lE h)
   ·refine aP h (fun c4 h=> ?_) (fun c4 h=> ?_)
    ·obtain rfl:=so h
     exact rq hC [] [3,35] [(3,vB false)] [(20,sc [V.t T.nilS,V.t T.nilS])] [] (qr eR)
    ·obtain rfl:=so h
     exact qk (qs (qw (lk hC [.fz 23 [] [22],.shd 24,.fz 24 [] [22]] [] [] [(22,sc [vM aN x2,vM aE x3]),(23,none),(24,none)] []) (rk hC [] [3,36] [(3,vB true)] [(20,sc [vM aN x2,vM aE x3])] [] (qr eR))))
theorem aCI{r_a0}{r}(h:rR n r_a0=some r):VQ G 192 [eL r_a0] [V.ref 0 0] (V.agg (bV r.1)) [eL r.2]:=by
 unfold rR at h
 refine vq aM Tryz.func192 rfl fun w X β0 hC hg=> ?_
 refine rq hC [.z (.nat 20)] [2] [(2,V.ref 20 0)] [(20,sc [V.t T.nilS,V.t T.nilS])] [(20,true)] ?_
 obtain⟨x1,hx1,h⟩:=bd h
 refine rq hC [.z (.int 0),oC [0] [] (jY G hx1)] [3,6,7,8] [(3,vS x1.1)] [(0,sR x1.2)] [(0,true)] ?_
 obtain⟨x2,hx2,x3,hx3,h⟩:=dD h
 refine rq hC [oS hx2,oV (pQ G hx3),.z (.nat 21)] [4,5,9,10,11,12,13,14] [(4,V.ref 21 0),(5,vB x3.2)] [(21,some (E.cells (bV x3.1)))] [(21,true)] (qs (vj h (fun x_=>aZ [(0,V.ref 0 0),(2,V.ref 20 0),(4,V.ref 21 0),(20,vB x_.2.2)] [(0,E.cells [vM rY x_.1,vI x_.2.1]),(20,E.cells [V.t T.nilS,V.t T.nilS]),(21,E.cells (bV x3.1))] [0,20,21]) (fun j4 h=> ?_) ?_))
 ·
  refine aQ h (fun c1 h=> ?_) (fun c1 h=> ?_)
  ·exact rk hC (rF 4 c1) (fr 15 6) [(20,vB false)] [] [] (lE h)
  ·obtain⟨x5,hx5,h⟩:=bd h
   exact rk hC [oT c1,oT c1,oC [0] [] (aU G hx5),oT c1,oT c1] (fr 15 6) [(20,vB (decide ((0:Int)<x5.1)))] [(0,sR x5.2)] [(0,true)] (lE h)
 ·rintro⟨x6,x7,x8⟩ h
  refine aP h (fun c2 h=> ?_) (fun c2 h=> ?_)
  ·obtain rfl:=so h
   exact rq hC [] [21] [] [(20,some (E.cells (bV x3.1)))] [] (qr eW)
  ·refine qk ?_
   obtain⟨x9,hx9,h⟩:=bd h
   obtain rfl:=so h
   exact rq hC [oC [0] [] (aCO G hx9)] [22,23] [] [(0,sR x9.2),(20,some (E.cells (bV x9.1)))] [(0,true)] (qr eW)
theorem aBu{r_a0}{r}(h:o8 n r_a0=some r):VQ G 101 [eL r_a0] [V.ref 0 0] (V.agg (bV r.1)) [eL r.2]:=by
 unfold o8 at h
 refine vq aM Tryz.func101 rfl fun w X β0 hC hg=> ?_
 refine rq hC [.z (.nat 20)] [2] [(2,V.ref 20 0)] [(20,sc [V.t T.nilS,V.t T.nilS])] [(20,true)] ?_
 obtain⟨x1,hx1,h⟩:=bd h
 refine rq hC [.z (.int 0),oC [0] [] (jY G hx1)] [3,6,7,8] [(3,vS x1.1)] [(0,sR x1.2)] [(0,true)] ?_
 obtain⟨x2,hx2,x3,hx3,h⟩:=dD h
 refine rq hC [oS hx2,oV (pQ G hx3),.z (.nat 21)] [4,5,9,10,11,12,13,14] [(4,V.ref 21 0),(5,vB x3.2)] [(21,some (E.cells (bV x3.1)))] [(21,true)] (qs (vj h (fun x_=>aZ [(0,V.ref 0 0),(2,V.ref 20 0),(4,V.ref 21 0),(20,vB x_.2.2)] [(0,E.cells [vM rY x_.1,vI x_.2.1]),(20,E.cells [V.t T.nilS,V.t T.nilS]),(21,E.cells (bV x3.1))] [0,20,21]) (fun j4 h=> ?_) ?_))
 ·
  refine aQ h (fun c1 h=> ?_) (fun c1 h=> ?_)
  ·exact rk hC (rF 4 c1) (fr 15 6) [(20,vB false)] [] [] (lE h)
  ·obtain⟨x5,hx5,h⟩:=bd h
   exact rk hC [oT c1,oT c1,oC [0] [] (aU G hx5),oT c1,oT c1] (fr 15 6) [(20,vB (decide ((0:Int)<x5.1)))] [(0,sR x5.2)] [(0,true)] (lE h)
 ·rintro⟨x6,x7,x8⟩ h
  refine aP h (fun c2 h=> ?_) (fun c2 h=> ?_)
  ·obtain rfl:=so h
   exact rq hC [] [21] [] [(20,some (E.cells (bV x3.1)))] [] (qr eW)
  ·refine qk ?_
   obtain⟨x9,hx9,h⟩:=bd h
   obtain rfl:=so h
   exact rq hC [oC [0] [] (aCI G hx9)] [22,23] [] [(0,sR x9.2),(20,some (E.cells (bV x9.1)))] [(0,true)] (qr eW)
theorem yY{p}{choices}{r}(h:gH n p choices=some r):VQ G 102 [] [V.agg (bV p),vM rI choices] (ms 0 1 1 rI r) [ar 3 1 1 rI r]:=by
 unfold gH at h
 refine vq aM Tryz.func102 rfl fun w X β0 hC hg=> ?_
 refine rq hC [.z (.b (true))] [2,4] [(2,V.tp (bP p))] [] [] (rq hC [.z (.nat 20)] [5,11] [(5,ms 20 1 1 rI [])] [(20,some (ar 3 1 1 rI []))] [(20,true)] ?_)
 obtain⟨x1,hx1,h⟩:=bd h
 refine rq hC [oC [] [21] (s5 G hx1)] [6,12,13] [(6,ms 21 1 3 aV x1)] [(21,some (ar 100 1 3 aV x1))] [(21,true)] ?_
 obtain⟨x2,hx2,x3,hx3,h⟩:=dD h
 refine rq hC [oC [] [22] (lV G hx2),oN aJ x2,.z (.nat 23),oA (u5 rB hx3),oQ (mA hx3).1] [7,14,15,16,17] [(7,ms 23 1 1 rB x3)] [(22,some (ar 38 1 3 aJ x2)),(23,some (ar 4 1 1 rB x3))] [(22,true),(23,true)] (qs (rq hC [] [8] [(8,vI 0)] [] [] (qb (qw (lk hC [.fz 21 [6] []] [6] [(6,vM aV x1)] [(21,none)] []) (bD (γ:=Nat×Nat) h (fun x_ g_=>aZ [(1,vM rI choices),(5,ms 20 g_.1 1 rI x_.1),(6,vM aV x1),(7,ms 23 g_.2 1 rB x_.2.1),(8,vI x_.2.2)] [(20,ar 3 g_.1 1 rI x_.1),(22,ar 38 1 3 aJ x2),(23,ar 4 g_.2 1 rB x_.2.1)] [20,21,22,23]) (1,1) (lS) ?_)))))
 rintro again9 ⟨x4,x5,x6⟩ ⟨g7,g8⟩ h
 refine qs (rq hC [oN rB x5] (fr 18 4) [(21,vB (decide (x6<(x5.length:Int))))] [] [] (aP h (fun c1 h=> ?_) (fun c1 h=> ?_)))
 ·refine qk (qs (qb ?_))
  obtain⟨x10,hx10,x11,hx11,h⟩:=dD h
  refine rq hC [oC [23] [24] (aBg G g8 hx10),.z (.len 7 (List.map rB x10.2).length),oQ (aBW rB hx11)] [7,9,24,25,26] [(7,ms 23 g8 1 rB x10.2),(9,ms 24 1 1 rI x10.1)] [(24,some (ar 3 1 1 rI x10.1)),(23,some (ar 4 g8 1 rB x10.2))] [(23,true),(24,true)] ?_
  obtain⟨x12,hx12,x13,hx13,h⟩:=dD h
  refine rq hC [oN rI x10.1,oV (Z3 G hx12),oQ (fJ rI hx13),oX rI hx13] [10,27,28,29,30,31,32,33,34] [(10,vI x13)] [] [] ?_
  obtain⟨x14,hx14,x15,hx15,h⟩:=dD h
  refine rq hC [oQ (fJ rB hx14),oX rB hx14,.z (.rows (List.map rB x15)),.z (.len 7 (List.map rB x15).length),oQ (str rB hx15),oQ (lJ rB hx15)] [7,35,36,37] [(7,ms 23 g8 1 rB x15)] [(23,some (ar 4 g8 1 rB x15))] [] ?_
  obtain⟨x16,hx16,h⟩:=bd h
  exact rk hC [.z (.int 0),oA (aT rI hx16),oQ (cL (r:=rI) 1 (fun _=>rfl) x4),oQ (cL (r:=rI) 1 (fun _=>rfl) [x13])] [5,38,39,40,41] [(5,ms 20 (g7+1) 1 rI x16)] [(20,some (ar 3 (g7+1) 1 rI x16))] [] (rk hC [] [8,22,23] [(8,vI (wr (x6+1)))] [] [] ⟨(x16,x15,wr (x6+1)),((g7+1),g8),h,lS⟩)
 ·obtain rfl:=so h
  exact cO (rq hC [] [4,42] [(4,ms 20 g7 1 rI x4)] [] [] (qw (lk hC [.ren 4 20 0] [4] [(4,ms 0 1 1 rI x4)] [(0,some (ar 3 1 1 rI x4)),(20,none)] [(0,true)]) (qr eW)))
theorem s6{code}{r}(h:d5 n code=some r):VQ G 40 [] [vM rY code] (V.tup [V.agg (bV r.1),ms 0 1 1 rI r.2]) [ar 3 1 1 rI r.2]:=by
 unfold d5 at h
 refine vq aM Tryz.func40 rfl fun w X β0 hC hg=> ?_
 refine rq hC [.z (.nat 20)] [2,3] [(2,V.ref 20 0)] [(20,sc [V.t T.nilS,V.t T.nilS])] [(20,true)] ?_
 obtain⟨x1,hx1,h⟩:=bd h
 refine rq hC [oC [] [21] (aBs G hx1)] [4,6,7] [(4,V.ref 21 0)] [(21,sR x1)] [(21,true)] ?_
 obtain⟨x2,hx2,h⟩:=bd h
 refine rq hC [oC [21] [] (aBu G hx2),.z (.nat 22)] [5,8,9] [(5,V.ref 22 0)] [(21,sR x2.2),(22,some (E.cells (bV x2.1)))] [(21,true),(22,true)] (qs ?_)
 obtain⟨x3,hx3,h⟩:=bd h
 refine rq hC [oC [21] [] (aU G hx3)] [10,11,12] [(12,vB (decide ((0:Int)<x3.1)))] [(21,sR x3.2)] [(21,true)] (aP h (fun c1 h=> ?_) (fun c1 h=> ?_))
 ·refine qs ?_
  obtain⟨x4,hx4,x5,hx5,x6,hx6,h⟩:=iZ h
  obtain⟨x7,hx7,h⟩:=bd h
  obtain rfl:=so h
  exact dk hC bI [oC [21] [] (aU G hx4),oC [21] [] (aU G hx5),oC [21] [] (aU G hx6),.z (.int 0),oC [] [23] (yY G hx7)] [3,13,14,15,16,17,18,19,20,21,22] [(3,ms 23 1 1 rI x7)] [(21,sR x6.2),(23,some (ar 3 1 1 rI x7)),(20,some (E.cells (bV x2.1)))] [(21,true),(21,true),(21,true),(23,true)] (qw (lk hC [.ren 3 23 0] [3] [(3,ms 0 1 1 rI x7)] [(0,some (ar 3 1 1 rI x7)),(23,none)] [(0,true)]) (qr eW))
 ·refine qk (qs ?_)
  obtain⟨x8,hx8,x9,hx9,h⟩:=dD h
  obtain rfl:=so h
  exact dk hC bI [oC [21] [] (Z4 G hx8),oC [21] [23] (aBi G hx9)] [3,23,24,25,26,27,28] [(3,ms 23 1 1 rI x9.1)] [(21,sR x9.2),(23,some (ar 3 1 1 rI x9.1)),(20,some (E.cells (bV x8.1)))] [(21,true),(21,true),(23,true)] (qw (lk hC [.ren 3 23 0] [3] [(3,ms 0 1 1 rI x9.1)] [(0,some (ar 3 1 1 rI x9.1)),(23,none)] [(0,true)]) (qr eW))
theorem kW{p}{order}{r}(h:e9 n p order=some r):PQ G 41 [V.agg (bV p),vM rI order] (vB r):=by
 unfold e9 at h
 refine pq aM Tryz.func41 rfl fun w X hC=> ?_
 refine rq hC [.z (.b (true))] [2,4] [(2,V.tp (bP p))] [] [] (qs ?_)
 obtain⟨x1,hx1,h⟩:=bd h
 refine rq hC [oV (L6 G hx1)] (fr 8 4) [(11,vB (!x1))] [] [] (aP h (fun c1 h=> ?_) (fun c1 h=> ?_))
 ·obtain rfl:=so h
  exact rq hC [] [4] [(4,vB false)] [] [] (qr eR)
 ·refine qk ?_
  obtain⟨x2,hx2,h⟩:=bd h
  refine rq hC [oC [] [20] (Z2 G hx2)] [5,12,13] [(5,ms 20 1 1 rI x2)] [(20,some (ar 3 1 1 rI x2))] [(20,true)] ?_
  obtain⟨x3,hx3,h⟩:=bd h
  refine rq hC [oC [] [21] (s5 G hx3)] [6,14,15] [(6,ms 21 1 3 aV x3)] [(21,some (ar 100 1 3 aV x3))] [(21,true)] (qs (rq hC [] [7] [(7,vI 0)] [] [] (qb (jF h (fun x_=>aZ [(5,ms 20 1 1 rI x2),(6,ms 21 1 3 aV x3),(7,vI x_)] [(20,ar 3 1 1 rI x2),(21,ar 100 1 3 aV x3)] [20,21]) lS ?_))))
  rintro again5 x4 h
  refine qs (rq hC [oN aV x3] (fr 16 4) [(19,vB (decide (x4<(x3.length:Int))))] [] [] (aP h (fun c2 h=> ?_) (fun c2 h=> ?_)))
  ·refine qk (qs (qb (qs ?_)))
   obtain⟨x6,hx6,x7,hx7,x8,hx8,h⟩:=iZ h
   refine dk hC bI [oQ (fJ aV hx6),oX aV hx6,oQ (fJ rI hx7),oX rI hx7,oQ (fJ aV hx6),oX aV hx6,oQ (fJ rI hx8),oX rI hx8] (fr 22 17) [(38,vB (decide (x8<x7)))] [] [] (aP h (fun c3 h=> ?_) (fun c3 h=> ?_))
   ·obtain rfl:=so h
    exact rq hC [] [4] [(4,vB false)] [] [] (qr eR)
   ·exact qk (rk hC [] [7,20,21] [(7,vI (wr (x4+1)))] [] [] (lE h))
  ·obtain rfl:=so h
   exact cO (rq hC [] [4] [(4,vB true)] [] [] (qr eR))
theorem vF(G:GS)(n:Nat)(code:List UInt8)(more:List UInt8){r:Bool}(h:gS n code more=some r):PQ G 9 [vM rY code,vM rY more] (vB r):=by
 unfold gS at h
 refine pq aM Tryz.func9 rfl fun w X hC=> ?_
 refine rq hC [] [4] [] [] [] (qs (vj h (fun x_=>aZ [(0,vM rY code),(1,vM rY more),(21,vB x_)] [] []) (fun j1 h=> ?_) (fun x2 h=> ?_)))
 ·
  refine aQ h (fun c1 h=> ?_) (fun c1 h=> ?_)
  ·exact rk hC [oN rY code,oF c1,oF c1,oN rY more,oF c1,oF c1] (fr 14 8) [(21,vB (decide ((1048576:Int)<(more.length:Int))))] [] [] (lE h)
  ·exact rk hC ([oN rY code]++rT 4 c1) (fr 14 8) [(21,vB true)] [] [] (lE h)
 ·refine aP h (fun c2 h=> ?_) (fun c2 h=> ?_)
  ·obtain rfl:=so h
   exact rq hC [] [4] [(4,vB true)] [] [] (qr eR)
  ·refine qk ?_
   obtain⟨x3,hx3,h⟩:=bd h
   refine rq hC [oC [] [20] (s6 G hx3),.z (.nat 21)] [5,6,22,23,24,25,26] [(5,V.ref 21 0),(6,ms 20 1 1 rI x3.2)] [(20,some (ar 3 1 1 rI x3.2)),(21,some (E.cells (bV x3.1)))] [(20,true),(21,true)] ?_
   obtain⟨x4,hx4,h⟩:=bd h
   refine rq hC [.z (.b (true)),oV (y7 G hx4)] [7,27,28,29] [(7,vB x4)] [] [] (qs (vj h (fun x_=>aZ [(1,vM rY more),(5,V.ref 21 0),(6,ms 20 1 1 rI x3.2),(7,vB x4),(38,vB x_)] [(20,ar 3 1 1 rI x3.2),(21,E.cells (bV x3.1))] [20,21]) (fun j5 h=> ?_) (fun x7 h=> ?_)))
   ·
    obtain⟨x6,hx6,h⟩:=bd h
    refine aQ h (fun c3 h=> ?_) (fun c3 h=> ?_)
    ·exact rk hC ([.z (.b (true)),oV (kW G hx6)]++rF 3 c3) (fr 30 9) [(38,vB (!x4))] [] [] (lE h)
    ·exact rk hC ([.z (.b (true)),oV (kW G hx6)]++rT 3 c3) (fr 30 9) [(38,vB true)] [] [] (lE h)
   ·refine aP h (fun c4 h=> ?_) (fun c4 h=> ?_)
    ·obtain⟨x8,hx8,h⟩:=bd h
     obtain rfl:=so h
     exact rq hC [.z (.b (true)),oV (kW G hx8)] [4,39,40,41,42,43] [(4,vB (x4==x8))] [] [] (qr eR)
    ·refine qk ?_
     obtain⟨x9,hx9,x10,hx10,h⟩:=dD h
     refine rq hC [oV (M5 G hx9),.z (.nat 22),oA (u5 rI hx10),oQ (mA hx10).1] [8,44,45,46] [(8,ms 22 1 1 rI x10)] [(22,some (ar 3 1 1 rI x10))] [(22,true)] (qs (rq hC [] [9] [(9,vI 0)] [] [] (qb (bD (γ:=Nat) h (fun x_ g_=>aZ [(1,vM rY more),(5,V.ref 21 0),(6,ms 20 1 1 rI x3.2),(8,ms 22 g_ 1 rI x_.1),(9,vI x_.2)] [(20,ar 3 1 1 rI x3.2),(21,E.cells (bV x3.1)),(22,ar 3 g_ 1 rI x_.1)] [20,21,22]) 1 (lS) ?_))))
     rintro again14 ⟨x11,x12⟩ g13 h
     refine qs (rq hC [oN rI x11] (fr 47 4) [(50,vB (decide (x12<(x11.length:Int))))] [] [] (aP h (fun c5 h=> ?_) (fun c5 h=> ?_)))
     ·refine qk (qs (qb ?_))
      obtain⟨x15,hx15,x16,hx16,h⟩:=dD h
      exact rk hC [oN rY more,oQ (show(1000:Int)≠0 by decide),oQ (fJ rI hx15),oX rI hx15,.z (.rows (List.map rI x16)),.z (.len 8 (List.map rI x16).length),oQ (str rI hx16),oQ (lJ rI hx16)] [8,53,54,55,56,57,58,59,60,61,62,63] [(8,ms 22 g13 1 rI x16)] [(22,some (ar 3 g13 1 rI x16))] [] (rk hC [] [9,51,52] [(9,vI (wr (x12+1)))] [] [] ⟨(x16,wr (x12+1)),g13,h,lS⟩)
     ·refine cO ?_
      obtain⟨x17,hx17,h⟩:=bd h
      refine rq hC [.z (.at 6),.z (.fz 22 [8,66] []),.z (.at 6),.z (.fz 20 [6,67] []),oC [] [23] (Z8 G hx17)] [6,8,10,11,64,65,66,67,68,69,70] [(8,vM rI x11),(10,ms 23 1 1 rI x17.1),(11,vB x17.2)] [(22,none),(20,none),(23,some (ar 3 1 1 rI x17.1))] [(23,true)] ?_
      obtain⟨x18,hx18,h⟩:=bd h
      refine rq hC [oC [] [24] (M3 G hx18)] [12,13,71,72,73,74,75,76] [(12,ms 24 1 1 rI x18.1),(13,vB x18.2)] [(24,some (ar 3 1 1 rI x18.1))] [(24,true)] (vj h (fun x_=>aZ [(4,vB x_)] [(21,E.cells (bV x3.1)),(23,ar 3 1 1 rI x17.1),(24,ar 3 1 1 rI x18.1)] [20,21,22,23,24]) (fun j19 h=> ?_) (fun x21 h=> ?_))
      ·
       refine aQ h (fun c6 h=> ?_) (fun c6 h=> ?_)
       ·exact rk hC ([oF c6,oF c6]++sF 4) [4,77,78,79,80,81,82,83,84,85] [(4,vB false)] [] [] (lE h)
       ·refine aQ h (fun c7 h=> ?_) (fun c7 h=> ?_)
        ·exact rk hC ([oT c6,oT c6]++rF 4 c7) [4,77,78,79,80,81,82,83,84,85] [(4,vB false)] [] [] (lE h)
        ·obtain⟨x20,hx20,h⟩:=bd h
         exact rk hC ([oT c6,oT c6]++rT 3 c7++[.z (.b (true)),oV (aCH G hx20),oT c7]) [4,77,78,79,80,81,82,83,84,85] [(4,vB x20)] [] [] (lE h)
      ·obtain rfl:=so h
       exact qr eR
end Go.Lift
