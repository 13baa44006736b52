/- The walks: the code computes what the plain functions say. -/
import Derived.Test.YtlbojjldejlgaaaGreatHModels
import Derived.Test.YtlbojjldejlgaaaGreatHWalks2
set_option maxRecDepth 10000
set_option linter.unusedVariables false
namespace Go.Lift
open Go Go.Proofs
variable (G:GS) {n:Nat}
theorem aAK{v}{k}{r}(h:uV n v k=some r):VQ G 40 [] [vI v,vI k] (V.agg [ms 0 1 1 rI r.coefs,vI r.const]) [ar 3 1 1 rI r.coefs]:=by refine vq aO Tryz.func40 rfl fun w X β0 hC hg=>rq hC [.z (.nat 20)] [4] [(4,V.ref 20 0)] [(20,sc [aT,vI 0])] [(20,true)] ?_;obtain⟨x1,hx1,h⟩:=bd h;refine rq hC [oC [] [21] (xE G hx1),.z (.nat 22)] [5,6] [(5,V.ref 22 0)] [(21,some (ar 3 1 1 rI x1.coefs)),(22,sc [ms 21 1 1 rI x1.coefs,vI x1.const])] [(21,true),(22,true)] ?_;obtain⟨x2,hx2,x3,hx3,h⟩:=dK h;cases h;exact gZ hC [oQ (jV rI hx2),oX rI hx2,.z (.rows (x3.map rI)),.z (.lenc 22 0 (x3.map rI).length),oQ (str rI hx3),oQ (iB rI hx3)] (fr 7 5) [(21,some (ar 3 1 1 rI x3)),(22,sc [ms 21 1 1 rI x3,vI x1.const])] [] (gN hC [12] [(20,sc [ms 21 1 1 rI x3,vI x1.const])] [] (qw (lk hC [.rn 21 0 [] [20,22]] [] [] [(20,sc [ms 0 1 1 rI x3,vI x1.const]),(22,sc [ms 0 1 1 rI x3,vI x1.const]),(21,none),(0,some (ar 3 1 1 rI x3))] [(0,true)]) zw))
theorem aEV{a}{k}{b}{r}(h:aBz n a k b=some r):VQ G 39 [] [V.agg (aL a),vI k,V.agg (aL b)] (V.agg [ms 0 1 1 rI r.coefs,vI r.const]) [ar 3 1 1 rI r.coefs]:=by
 refine vq aO Tryz.func39 rfl fun w X β0 hC hg=>rq hC [.z (.b (true)),.z (.b (true)),.z (.nat 20)] [3,5,6] [(3,V.tp (aV a)),(5,V.tp (aV b)),(6,V.ref 20 0)] [(20,sc [aT,vI 0])] [(20,true)] ?_;obtain⟨x1,hx1,h⟩:=bd h;refine rq hC [oC [] [21] (iT G n a hx1),.z (.nat 22)] [7,10,11] [(7,V.ref 22 0)] [(21,some (ar 3 1 1 rI x1.coefs)),(22,sc [ms 21 1 1 rI x1.coefs,vI x1.const])] [(21,true),(22,true)] (qs (aU hC [oN rI b.coefs] (fr 12 4) [(13,vM rI b.coefs),(14,vI (b.coefs.length:Int)),(15,vI 0)] (qb (kU h (fun x_ g_=>cY [(1,vI k),(5,V.tp (aV b)),(6,V.ref 20 0),(7,V.ref 22 0),(13,vM rI b.coefs),(14,vI (b.coefs.length:Int)),(15,vI x_.2)] [(20,E.cells [aT,vI 0]),(21,ar 3 g_ 1 rI x_.1),(22,E.cells [ms 21 g_ 1 rI x_.1,vI x1.const])] [20,21,22]) 1 (lS) ?_))));rintro again5 ⟨x2,x3⟩ g4 h;refine aG hC [16] [(16,vK x3 b.coefs)] (nG h (fun c1 h=>?_) fun c1 h=>?_)
 ·refine qk (cL ?_);obtain⟨x6,hx6,h⟩:=bd h;refine aU hC [oR rI hx6] [8,9,17,18,19] [(8,vI x3),(9,vI x6)] ?_;obtain⟨x7,hx7,x8,hx8,h⟩:=dK h;exact rkt hC [oQ (jV rI hx7),oX rI hx7,oQ (jV rI hx7),oX rI hx7,.z (.rows (x8.map rI)),.z (.lenc 22 0 (x8.map rI).length),oQ (str rI hx8),oQ (iB rI hx8)] (fr 20 10) [(21,some (ar 3 g4 1 rI x8)),(22,sc [ms 21 g4 1 rI x8,vI x1.const])] [] (aY hC [15,30] [(15,vI (wr (x3+1)))] ⟨(x8,wr (x3+1)),g4,h,lS⟩)
 cases h;exact cF (gN hC (fr 31 8) [(22,sc [ms 21 g4 1 rI x2,vI (wr (x1.const+(wr (k*b.const))))])] [] (gN hC [39] [(20,sc [ms 21 g4 1 rI x2,vI (wr (x1.const+(wr (k*b.const))))])] [] (qw (lk hC [.rn 21 0 [] [20,22]] [] [] [(20,sc [ms 0 1 1 rI x2,vI (wr (x1.const+(wr (k*b.const))))]),(22,sc [ms 0 1 1 rI x2,vI (wr (x1.const+(wr (k*b.const))))]),(21,none),(0,some (ar 3 1 1 rI x2))] [(0,true)]) zw)))
theorem pH(G:GS)(n:Nat)(a:Access)(changeF:FuncId)(changeC0:List T)(changeC1:List T)(change:Affine→Option Affine)(hchange: ∀(q0:Affine) r,change q0=some r→PQ G changeF [V.agg (aL q0),V.tp changeC0,V.tp changeC1] (V.agg (aL r))){r:Access}(h:gQ n a change=some r):PQ G 123 [V.agg (cH a),V.fn changeF [V.tp changeC0,V.tp changeC1]] (V.agg (cH r)):=by
 refine pq aO Tryz.func123 rfl fun w X hC=>rq hC [.z (.b (true)),.z (.nat 20)] [2,4] [(2,V.tp (cN a)),(4,V.ref 20 0)] [(20,sc [vS [],aT])] [(20,true)] (rq hC [.z (.nat 21)] [5,8,9,10] [(5,V.ref 21 0)] [(21,sc [vS a.array,aT])] [(21,true)] (qs (aU hC [oN aA a.subs] (fr 11 4) [(12,vM aA a.subs),(13,vI (a.subs.length:Int)),(14,vI 0)] (qb (qw (lk hC [.growc 21 1 22 46] [] [] [(22,some (ar 46 1 2 aA [])),(21,sc [vS a.array,ms 22 1 2 aA []])] [(22,true)]) ?_)))));refine kU h (fun x_ g_=>cY [(1,V.fn changeF [V.tp changeC0,V.tp changeC1]),(4,V.ref 20 0),(5,V.ref 21 0),(12,vM aA a.subs),(13,vI (a.subs.length:Int)),(14,vI x_.2)] [(20,E.cells [vS [],aT]),(21,E.cells [vS a.array,ms 22 g_ 2 aA x_.1]),(22,ar 46 g_ 2 aA x_.1)] [20,21,22]) 1 (lS) ?_;rintro again4 ⟨x1,x2⟩ g3 h;refine aG hC [15] [(15,vK x2 a.subs)] (nG h (fun c1 h=>?_) fun c1 h=>?_)
 ·refine qk (cL ?_);obtain⟨x5,hx5,h⟩:=bd h;refine rq hC [oR aA hx5,.z (.nat 23)] [7,16,17] [(7,V.ref 23 0)] [(23,some (E.cells (aL x5)))] [(23,true)] ?_;obtain⟨x6,hx6,x7,hx7,h⟩:=dK h;exact oJ hC bL [oV (hchange x5 _ hx6),.z (.int 0),oA (aZ aA hx7),oM 2 bE x1,oM 2 bE [x6]] (fr 18 8) [(22,some (ar 46 (g3+1) 2 aA x7)),(21,sc [vS a.array,ms 22 (g3+1) 2 aA x7])] [] (aY hC [14,26] [(14,vI (wr (x2+1)))] ⟨(x7,wr (x2+1)),(g3+1),h,lS⟩)
 cases h;exact cF (gZ hC [.z (.at 2),.z (.fz 22 [] [21])] [27] [(21,sc [vS a.array,vM aA x1]),(22,none),(20,sc [vS a.array,vM aA x1])] [] zr)
theorem M8(G:GS): ∀(n:Nat) (e:Expr) (changeF:FuncId) (changeC0:List T) (changeC1:List T) (change:Affine→Option Affine) (hchange: ∀(q0:Affine) r,change q0=some r→PQ G changeF [V.agg (aL q0),V.tp changeC0,V.tp changeC1] (V.agg (aL r))) {r:Expr} (h:i_exprMap n e change=some r),PQ G 124 [V.agg (dO e),V.fn changeF [V.tp changeC0,V.tp changeC1]] (V.agg (dO r)):=by
 intro n;induction n with
 |zero=>intro e changeF changeC0 changeC1 change hchange r h;rw [i_exprMap.eq_def] at h;cases h
 |succ n ih=>
  intro e changeF changeC0 changeC1 change hchange r h;rw [i_exprMap.eq_def] at h;dsimp only at h;refine pq aO Tryz.func124 rfl fun w X hC=>rq hC [.z (.b (true)),.z (.nat 20)] [2,4] [(2,V.tp (dN e)),(4,V.ref 20 0)] [(20,sc [vI 0,vI 0,aT,vI 0,vS [],aT,aT])] [(20,true)] (rq hC [.z (.nat 21)] [5,8,9,10,11,12] [(5,V.ref 21 0)] [(21,sc [vI e.kind,vI e.num,aT,vI 0,vS [],aT,aT])] [(21,true)] (vj h (fun x_=>cY [(1,V.fn changeF [V.tp changeC0,V.tp changeC1]),(2,V.tp (dN e)),(4,V.ref 20 0),(5,V.ref 21 0)] [(20,E.cells [vI 0,vI 0,aT,vI 0,vS [],aT,aT]),(21,E.cells [vI e.kind,vI e.num,vM rI x_.1,vI x_.2.1,vS x_.2.2.1,vM aA x_.2.2.2,aT])] [20,21]) (fun j1 h=>?_) ?_))
  ·refine aG hC [13,14] [(14,vI e.kind)] (qb (aG hC [15,16] [(15,vD (e.kind=2))] (bA h (fun c1 h=>?_) fun c1 h=>?_)))
   ·obtain⟨x2,hx2,h⟩:=bd h;exact rkt hC [oV (hchange e.index _ hx2)] (fr 17 5) [(21,sc [vI e.kind,vI e.num,vM rI x2.coefs,vI x2.const,vS [],aT,aT])] [] (lE h)
   refine aG hC [22,23] [(22,vD (e.kind=3))] (bA h (fun c2 h=>?_) fun c2 h=>qk (lE h));obtain⟨x3,hx3,h⟩:=bd h;exact rkt hC [oV (pH G n e.read changeF changeC0 changeC1 change hchange hx3)] (fr 24 5) [(21,sc [vI e.kind,vI e.num,aT,vI 0,vS x3.array,vM aA x3.subs,aT])] [] (lE h)
  rintro⟨x4,x5,x6,x7⟩ h;refine qs (aU hC [oN aC e.kids] (fr 29 4) [(30,vM aC e.kids),(31,vI (e.kids.length:Int)),(32,vI 0)] (qb (qw (lk hC [.growc 21 6 22 108] [] [] [(22,some (ar 108 1 7 aC [])),(21,sc [vI e.kind,vI e.num,vM rI x4,vI x5,vS x6,vM aA x7,ms 22 1 7 aC []])] [(22,true)]) (kU h (fun x_ g_=>cY [(1,V.fn changeF [V.tp changeC0,V.tp changeC1]),(4,V.ref 20 0),(5,V.ref 21 0),(30,vM aC e.kids),(31,vI (e.kids.length:Int)),(32,vI x_.2)] [(20,E.cells [vI 0,vI 0,aT,vI 0,vS [],aT,aT]),(21,E.cells [vI e.kind,vI e.num,vM rI x4,vI x5,vS x6,vM aA x7,ms 22 g_ 7 aC x_.1]),(22,ar 108 g_ 7 aC x_.1)] [20,21,22]) 1 (lS) ?_))));rintro again11 ⟨x8,x9⟩ g10 h;refine aG hC [33] [(33,vK x9 e.kids)] (nG h (fun c3 h=>?_) fun c3 h=>?_)
  ·refine qk (cL ?_);obtain⟨x12,hx12,h⟩:=bd h;refine rq hC [.z (.row (bG x12)),.z (.nat 23),oQ (cG aC hx12 (aQ x12))] [7,34,35] [(7,V.ref 23 0)] [(23,some (E.cells (dO x12)))] [(23,true)] ?_;obtain⟨x13,hx13,x14,hx14,h⟩:=dK h;exact oJ hC bL [oV (ih x12 changeF changeC0 changeC1 change hchange hx13),.z (.int 2),.z (.rows (List.map aC [x13])),oQ (w5 x13),oA (aZ aC hx14),oM 7 eC x8,oM 7 eC [x13]] (fr 36 8) [(22,some (ar 108 (g10+1) 7 aC x14)),(21,sc [vI e.kind,vI e.num,vM rI x4,vI x5,vS x6,vM aA x7,ms 22 (g10+1) 7 aC x14])] [] (aY hC [32,44] [(32,vI (wr (x9+1)))] ⟨(x14,wr (x9+1)),(g10+1),h,lS⟩)
  cases h;exact cF (gZ hC [.z (.at 2),.z (.fz 22 [] [21])] [45] [(21,sc [vI e.kind,vI e.num,vM rI x4,vI x5,vS x6,vM aA x7,vM aC x8]),(22,none),(20,sc [vI e.kind,vI e.num,vM rI x4,vI x5,vS x6,vM aA x7,vM aC x8])] [] zr)
theorem M6(G:GS)(n:Nat)(s:Stmt)(changeF:FuncId)(changeC0:List T)(changeC1:List T)(change:Affine→Option Affine)(hchange: ∀(q0:Affine) r,change q0=some r→PQ G changeF [V.agg (aL q0),V.tp changeC0,V.tp changeC1] (V.agg (aL r))){r:Stmt}(h:iC n s change=some r):PQ G 83 [V.agg (eN s),V.fn changeF [V.tp changeC0,V.tp changeC1]] (V.agg (eN r)):=by refine pq aO Tryz.func83 rfl fun w X hC=>rq hC [.z (.b (true)),.z (.nat 20)] [2,4] [(2,V.tp (jW s)),(4,V.ref 20 0)] [(20,sc [vS [],aT,vI 0,vI 0,aT,vI 0,vS [],aT,aT])] [(20,true)] (qs ?_);obtain⟨x1,hx1,x2,hx2,h⟩:=dK h;cases h;exact oJ hC bL [oV (pH G n s.write changeF changeC0 changeC1 change hchange hx1),oV (M8 G n s.value changeF changeC0 changeC1 change hchange hx2)] (fr 5 9) [(20,sc [vS x1.array,vM aA x1.subs,vI x2.kind,vI x2.num,vM rI x2.index.coefs,vI x2.index.const,vS x2.read.array,vM aA x2.read.subs,vM aC x2.kids])] [] zr
theorem sP(G:GS)(n:Nat)(rows:List Part)(i:Int)(p:Part)(hp:ix rows i=some p)(g:Nat)(from_:Int)(fF:FuncId)(fC0:List T)(fC1:List T)(f:Affine→Option Affine)(hf: ∀(q0:Affine) r,f q0=some r→PQ G fF [V.agg (aL q0),V.tp fC0,V.tp fC1] (V.agg (aL r))){p':Part}{rows':List Part}(h:kX n p from_ f=some p')(hr:cX rows i p'=some rows'):
  VQ G 41 [E.tree d9 0 g (rows.map aF) []] [V.eref 0 g 2 (0+Int.toNat i) 0,vI from_,V.fn fF [V.tp fC0,V.tp fC1]] (V.tup []) [E.tree d9 0 g (List.map aF rows') []]:=by
 refine vq aO Tryz.func41 rfl fun w X β0 hC hg=>qs (aG hC [6,9] [(6,vI from_)] (qw (r9 hC [.foc 0 21 (0+Int.toNat i) 0 (aF p),.foc 0 22 (0+Int.toNat i) 1 (aF p),.shd 22] [] [] [(0,some (E.tree d9 0 g (rows.map aF) [((0+Int.toNat i),1,ms 22 1 9 aE p.body),((0+Int.toNat i),0,ms 21 1 2 aD p.nest)])),(21,some (E.tree d9 1 1 (p.nest.map aD) [])),(22,some (ar 110 1 9 aE p.body))] [(21,true),(22,true)] (a2 (eX aF hp) (eX aF hp)) (by kernel_rfl)) (qb (gY h (fun x_=>cY [(0,V.eref 0 g 2 (0+Int.toNat i) 0),(2,V.fn fF [V.tp fC0,V.tp fC1]),(6,vI x_.2)] [(0,E.tree d9 0 g (rows.map aF) [((0+Int.toNat i),1,ms 22 1 9 aE p.body),((0+Int.toNat i),0,ms 21 1 2 aD p.nest)]),(21,E.tree d9 1 1 (x_.1.map aD) []),(22,ar 110 1 9 aE p.body)] [0,21,22]) lS ?_))));rintro again1 ⟨x,k⟩ h;obtain⟨s1,hs1,h⟩:=bd h;refine qs (aU hC [oX aF hp,.z (.nat x.length),oQ (aMN aD hs1)] (fr 10 7) [(16,vD (k<(x.length:Int)))] (bA h (fun c1 h=>?_) fun c1 h=>?_))
 ·refine qk (cL ?_);obtain⟨x2,hx2,x3,hx3,x4,hx4,h⟩:=rA h;exact rkt hC [oX aF hp,oQ (aMb aD hs1 hx2),oC [21] [] (sQ G n x k x2 hx2 1 fF fC0 fC1 f hf hx3 hx4)] (fr 19 8) [(21,some (E.tree d9 1 1 (x4.map aD) []))] [(21,true)] (aY hC [6,17,18] [(6,vI (wr (k+1)))] (lE h))
 refine cF (aU hC [oX aF hp,oN aE p.body] (fr 27 6) [(30,ms 22 1 9 aE p.body),(31,vI (p.body.length:Int)),(32,vI 0)] (qb (gY h (fun x_=>cY [(0,V.eref 0 g 2 (0+Int.toNat i) 0),(2,V.fn fF [V.tp fC0,V.tp fC1]),(30,ms 22 1 9 aE x_.1),(31,vI (p.body.length:Int)),(32,vI x_.2)] [(0,E.tree d9 0 g (rows.map aF) [((0+Int.toNat i),1,ms 22 1 9 aE p.body),((0+Int.toNat i),0,ms 21 1 2 aD p.nest)]),(21,E.tree d9 1 1 (x.map aD) []),(22,ar 110 1 9 aE x_.1)] [0,21,22]) lS ?_)));rintro again2 ⟨y,j⟩ h;obtain⟨s2,hs2,h⟩:=bd h;refine aG hC [33] [(33,vD (j<(p.body.length:Int)))] (nG h (fun c2 h=>?_) fun c2 h=>?_)
 ·refine qk (cL ?_);obtain⟨x6,hx6,h⟩:=bd h;refine rq hC [oQ (jV aE hx6),oX aE hx6,.z (.nat 24)] [7,8,34,35,36] [(7,vI j),(8,V.ref 24 0)] [(24,some (E.cells (eN x6)))] [(24,true)] ?_;obtain⟨x7,hx7,x8,hx8,h⟩:=dK h;exact oJ hC bL [oX aF hp,oV (M6 G n x6 fF fC0 fC1 f hf hx7),oQ (aMb aE hs2 hx6),oX aE hx6,.z (.rows (x8.map aE)),oQ (str aE hx8)] (fr 37 9) [(22,some (ar 110 1 9 aE x8))] [] (qw (r9 hC [.len 30 (x8.map aE).length] [30] [(30,ms 22 1 9 aE x8)] [] [] (a1 (iB aE hx8)) (by kernel_rfl)) (aY hC [32,46] [(32,vI (wr (j+1)))] (lE h)))
 cases h;exact qw (r9 hC [.tre 22 d9 2,.unf 0 22 (aF p) (List.map aF (rows.set i.toNat (⟨p.nest,y⟩:Part))),.unf 0 21 (aF (⟨p.nest,y⟩:Part)) (List.map aF rows')] [] [] [(22,none),(21,none),(0,some (E.tree d9 0 g (List.map aF rows') []))] [] (a8 (lO aE hs2) (Eq.refl d9) (eX aF hp) (aCM aF (E9 hr (⟨p.nest,y⟩:Part)) rfl) (lO aD hs1) (Eq.refl d9) (eX aF (aDf hr (⟨p.nest,y⟩:Part))) (aCM aF (E8 hr (⟨p.nest,y⟩:Part)) rfl)) (by kernel_rfl)) (cF eW)
theorem aFI{a}{v}{b}{r}(h:C7 n a v b=some r):VQ G 43 [] [V.agg (aL a),vI v,V.agg (aL b)] (V.agg [ms 0 1 1 rI r.coefs,vI r.const]) [ar 3 1 1 rI r.coefs]:=by refine vq aO Tryz.func43 rfl fun w X β0 hC hg=>rq hC [.z (.b (true)),.z (.b (true)),.z (.nat 20)] [3,5,6] [(3,V.tp (aV a)),(5,V.tp (aV b)),(6,V.ref 20 0)] [(20,sc [aT,vI 0])] [(20,true)] ?_;obtain⟨x1,hx1,h⟩:=bd h;refine rq hC [oC [] [21] (iT G n a hx1),.z (.nat 22)] [7,9,10] [(7,V.ref 22 0)] [(21,some (ar 3 1 1 rI x1.coefs)),(22,sc [ms 21 1 1 rI x1.coefs,vI x1.const])] [(21,true),(22,true)] ?_;obtain⟨x2,hx2,h⟩:=bd h;refine aU hC [oQ (jV rI hx2),oX rI hx2] [8,11,12,13,14,15] [(8,vI x2)] ?_;obtain⟨x3,hx3,h⟩:=bd h;refine gZ hC [oQ (jV rI hx2),oX rI hx2,.z (.rows (x3.map rI)),.z (.lenc 22 0 (x3.map rI).length),oQ (str rI hx3),oQ (iB rI hx3)] (fr 16 4) [(21,some (ar 3 1 1 rI x3)),(22,sc [ms 21 1 1 rI x3,vI x1.const])] [] ?_;obtain⟨x4,hx4,h⟩:=bd h;obtain rfl:=so h;exact gZ hC [.z (.at 5),.z (.fz 21 [] [22]),oC [] [23] (aEV G hx4)] (fr 20 4) [(22,sc [vM rI x3,vI x1.const]),(21,none),(23,some (ar 3 1 1 rI x4.coefs)),(20,sc [ms 23 1 1 rI x4.coefs,vI x4.const])] [(23,true)] (qw (lk hC [.rn 23 0 [] [20]] [] [] [(20,sc [ms 0 1 1 rI x4.coefs,vI x4.const]),(23,none),(0,some (ar 3 1 1 rI x4.coefs))] [(0,true)]) zw)
theorem L3{a}{b}{r}(h:rC n a b=some r):PQ G 125 [vM rI a,vM rI b] (vB r):=by
 refine pq aO Tryz.func125 rfl fun w X hC=>bD hC [4] (qs (aU hC [oN rI a,oN rI b] (fr 6 5) [(10,vB (!decide ((a.length:Int)=(b.length:Int))))] (bA h (fun c1 h=>?_) fun c1 h=>?_)))
 ·cases h;exact aG hC [4] [(4,vB false)] zr
 refine qk (qs (aG hC [5] [(5,vI 0)] (qb (gY h (fun x_=>d8 [(0,vM rI a),(1,vM rI b),(5,vI x_)]) lS ?_))));rintro again2 x1 h;refine qs (aU hC [oN rI a] (fr 11 4) [(14,vK x1 a)] (bA h (fun c2 h=>?_) fun c2 h=>?_))
 ·refine qk (cL (qs ?_));obtain⟨x3,hx3,x4,hx4,h⟩:=dK h;refine qU hC bL [oR rI hx3,oR rI hx4] (fr 17 9) [(25,vB (!decide (x3=x4)))] (bA h (fun c3 h=>?_) fun c3 h=>qk (aY hC [5,15,16] [(5,vI (wr (x1+1)))] (lE h)));cases h;exact aG hC [4] [(4,vB false)] zr
 cases h;exact cF (aG hC [4] [(4,vB true)] zr)
theorem aB1{a}{b}{r}(h:sZ n a b=some r):PQ G 84 [V.agg [vS a.name,vM rI a.dims],V.agg [vS b.name,vM rI b.dims]] (vB r):=by
 refine pq aO Tryz.func84 rfl fun w X hC=>aU hC [.z (.b (true)),.z (.b (true))] [2,3,4] [(2,V.tp [T.str a.name,T.sl (List.map rI a.dims)]),(3,V.tp [T.str b.name,T.sl (List.map rI b.dims)])] (qs (aG hC (fr 5 5) [(9,vB (!decide (a.name=b.name)))] (bA h (fun c1 h=>?_) fun c1 h=>?_)))
 ·cases h;exact aG hC [4] [(4,vB false)] zr
 refine qk (qs ?_);obtain⟨x1,hx1,h⟩:=bd h;refine aU hC [oV (L3 G hx1)] (fr 10 6) [(15,vB (!x1))] (bA h (fun c2 h=>?_) fun c2 h=>?_)
 ·cases h;exact aG hC [4] [(4,vB false)] zr
 cases h;exact qk (aG hC [4] [(4,vB true)] zr)
theorem aAI{a}{b}{r}(h:uD n a b=some r):PQ G 45 [vM aJ a,vM aJ b] (vB r):=by
 refine pq aO Tryz.func45 rfl fun w X hC=>bD hC [4] (qs (aU hC [oN aJ a,oN aJ b] (fr 6 5) [(10,vB (!decide ((a.length:Int)=(b.length:Int))))] (bA h (fun c1 h=>?_) fun c1 h=>?_)))
 ·cases h;exact aG hC [4] [(4,vB false)] zr
 refine qk (qs (aG hC [5] [(5,vI 0)] (qb (gY h (fun x_=>d8 [(0,vM aJ a),(1,vM aJ b),(5,vI x_)]) lS ?_))));rintro again2 x1 h;refine qs (aU hC [oN aJ a] (fr 11 4) [(14,vK x1 a)] (bA h (fun c2 h=>?_) fun c2 h=>?_))
 ·refine qk (cL (qs ?_));obtain⟨x3,hx3,x4,hx4,x5,hx5,h⟩:=rA h;refine qU hC bL [oR aJ hx3,oR aJ hx4,oV (aB1 G hx5)] (fr 17 10) [(26,vB (!x5))] (bA h (fun c3 h=>?_) fun c3 h=>qk (aY hC [5,15,16] [(5,vI (wr (x1+1)))] (lE h)));cases h;exact aG hC [4] [(4,vB false)] zr
 cases h;exact cF (aG hC [4] [(4,vB true)] zr)
theorem w8{a}{b}{r}(h:mU n a b=some r):PQ G 246 [V.agg (aL a),V.agg (aL b)] (vB r):=by
 refine pq aO Tryz.func246 rfl fun w X hC=>aU hC [.z (.b (true)),.z (.b (true))] [2,3,4] [(2,V.tp (aV a)),(3,V.tp (aV b))] (qs ?_);obtain⟨x1,hx1,h⟩:=bd h;refine aU hC [oV (L3 G hx1)] (fr 5 6) [(10,vB (!x1))] (bA h (fun c1 h=>?_) fun c1 h=>?_)
 ·cases h;exact aG hC [4] [(4,vB false)] zr
 refine qk (qs (aG hC (fr 11 5) [(15,vB (!decide (a.const=b.const)))] (bA h (fun c2 h=>?_) fun c2 h=>?_)))
 ·cases h;exact aG hC [4] [(4,vB false)] zr
 cases h;exact qk (aG hC [4] [(4,vB true)] zr)
theorem oB{a}{b}{r}(h:lG n a b=some r):PQ G 212 [vM aA a,vM aA b] (vB r):=by
 refine pq aO Tryz.func212 rfl fun w X hC=>bD hC [4] (qs (aU hC [oN aA a,oN aA b] (fr 6 5) [(10,vB (!decide ((a.length:Int)=(b.length:Int))))] (bA h (fun c1 h=>?_) fun c1 h=>?_)))
 ·cases h;exact aG hC [4] [(4,vB false)] zr
 refine qk (qs (aG hC [5] [(5,vI 0)] (qb (gY h (fun x_=>d8 [(0,vM aA a),(1,vM aA b),(5,vI x_)]) lS ?_))));rintro again2 x1 h;refine qs (aU hC [oN aA a] (fr 11 4) [(14,vK x1 a)] (bA h (fun c2 h=>?_) fun c2 h=>?_))
 ·refine qk (cL (qs ?_));obtain⟨x3,hx3,x4,hx4,x5,hx5,h⟩:=rA h;refine qU hC bL [oR aA hx3,oR aA hx4,oV (w8 G hx5)] (fr 17 10) [(26,vB (!x5))] (bA h (fun c3 h=>?_) fun c3 h=>qk (aY hC [5,15,16] [(5,vI (wr (x1+1)))] (lE h)));cases h;exact aG hC [4] [(4,vB false)] zr
 cases h;exact cF (aG hC [4] [(4,vB true)] zr)
theorem aDL{a}{b}{r}(h:vY n a b=some r):PQ G 170 [V.agg (lX a),V.agg (lX b)] (vB r):=by
 refine pq aO Tryz.func170 rfl fun w X hC=>aU hC [.z (.b (true)),.z (.b (true))] [2,3,4] [(2,V.tp (oL a)),(3,V.tp (oL b))] (qs ?_);obtain⟨x1,hx1,h⟩:=bd h;refine aU hC [oV (oB G hx1)] (fr 5 6) [(10,vB (!x1))] (bA h (fun c1 h=>?_) fun c1 h=>?_)
 ·cases h;exact aG hC [4] [(4,vB false)] zr
 refine qk (qs ?_);obtain⟨x2,hx2,h⟩:=bd h;refine aU hC [oV (oB G hx2)] (fr 11 6) [(16,vB (!x2))] (bA h (fun c2 h=>?_) fun c2 h=>?_)
 ·cases h;exact aG hC [4] [(4,vB false)] zr
 cases h;exact qk (aG hC [4] [(4,vB true)] zr)
theorem aBZ{a}{b}{r}(h:yB n a b=some r):PQ G 126 [vM aD a,vM aD b] (vB r):=by
 refine pq aO Tryz.func126 rfl fun w X hC=>bD hC [4] (qs (aU hC [oN aD a,oN aD b] (fr 6 5) [(10,vB (!decide ((a.length:Int)=(b.length:Int))))] (bA h (fun c1 h=>?_) fun c1 h=>?_)))
 ·cases h;exact aG hC [4] [(4,vB false)] zr
 refine qk (qs (aG hC [5] [(5,vI 0)] (qb (gY h (fun x_=>d8 [(0,vM aD a),(1,vM aD b),(5,vI x_)]) lS ?_))));rintro again2 x1 h;refine qs (aU hC [oN aD a] (fr 11 4) [(14,vK x1 a)] (bA h (fun c2 h=>?_) fun c2 h=>?_))
 ·refine qk (cL (qs ?_));obtain⟨x3,hx3,x4,hx4,x5,hx5,h⟩:=rA h;refine qU hC bL [oR aD hx3,oR aD hx4,oV (aDL G hx5)] (fr 17 10) [(26,vB (!x5))] (bA h (fun c3 h=>?_) fun c3 h=>qk (aY hC [5,15,16] [(5,vI (wr (x1+1)))] (lE h)));cases h;exact aG hC [4] [(4,vB false)] zr
 cases h;exact cF (aG hC [4] [(4,vB true)] zr)
theorem w9{a}{b}{r}(h:mV n a b=some r):PQ G 213 [V.agg (cH a),V.agg (cH b)] (vB r):=by
 refine pq aO Tryz.func213 rfl fun w X hC=>aU hC [.z (.b (true)),.z (.b (true))] [2,3,4] [(2,V.tp (cN a)),(3,V.tp (cN b))] (qs (aG hC (fr 5 5) [(9,vB (!decide (a.array=b.array)))] (bA h (fun c1 h=>?_) fun c1 h=>?_)))
 ·cases h;exact aG hC [4] [(4,vB false)] zr
 refine qk (qs ?_);obtain⟨x1,hx1,h⟩:=bd h;refine aU hC [oV (oB G hx1)] (fr 10 6) [(15,vB (!x1))] (bA h (fun c2 h=>?_) fun c2 h=>?_)
 ·cases h;exact aG hC [4] [(4,vB false)] zr
 cases h;exact qk (aG hC [4] [(4,vB true)] zr)
theorem aB0(G:GS)(n:Nat)(self:Expr→Expr→Option Bool)(hself: ∀(q0:Expr) (q1:Expr) {r:Bool},self q0 q1=some r→PQ G 214 [V.agg (dO q0),V.agg (dO q1)] (vB r))(a:List Expr)(b:List Expr){r:Bool}(h:yC n self a b=some r):PQ G 247 [vM aC a,vM aC b] (vB r):=by
 refine pq aO Tryz.func247 rfl fun w X hC=>bD hC [4] (qs (aU hC [oN aC a,oN aC b] (fr 6 5) [(10,vB (!decide ((a.length:Int)=(b.length:Int))))] (bA h (fun c1 h=>?_) fun c1 h=>?_)))
 ·cases h;exact aG hC [4] [(4,vB false)] zr
 refine qk (qs (aG hC [5] [(5,vI 0)] (qb (gY h (fun x_=>d8 [(0,vM aC a),(1,vM aC b),(5,vI x_)]) lS ?_))));rintro again2 x1 h;refine qs (aU hC [oN aC a] (fr 11 4) [(14,vK x1 a)] (bA h (fun c2 h=>?_) fun c2 h=>?_))
 ·refine qk (cL (qs ?_));obtain⟨x3,hx3,x4,hx4,x5,hx5,h⟩:=rA h;refine qU hC bL [.z (.row (bG x3)),.z (.row (bG x4)),oQ (cG aC hx3 (aQ x3)),oQ (cG aC hx4 (aQ x4)),oV (hself x3 x4 hx5)] (fr 17 10) [(26,vB (!x5))] (bA h (fun c3 h=>?_) fun c3 h=>qk (aY hC [5,15,16] [(5,vI (wr (x1+1)))] (lE h)));cases h;exact aG hC [4] [(4,vB false)] zr
 cases h;exact cF (aG hC [4] [(4,vB true)] zr)
theorem aDM(G:GS): ∀(n:Nat) (a:Expr) (b:Expr) {r:Bool} (h:w_eqExpr n a b=some r),PQ G 214 [V.agg (dO a),V.agg (dO b)] (vB r):=by
 intro n;induction n with
 |zero=>intro a b r h;rw [w_eqExpr.eq_def] at h;cases h
 |succ n ih=>
  intro a b r h;rw [w_eqExpr.eq_def] at h;dsimp only at h;refine pq aO Tryz.func214 rfl fun w X hC=>aU hC [.z (.b (true)),.z (.b (true))] [2,3,4] [(2,V.tp (dN a)),(3,V.tp (dN b))] (qs (aG hC (fr 5 5) [(9,vB (!decide (a.kind=b.kind)))] (bA h (fun c1 h=>?_) fun c1 h=>?_)))
  ·cases h;exact aG hC [4] [(4,vB false)] zr
  refine qk (qs (aG hC (fr 10 5) [(14,vB (!decide (a.num=b.num)))] (bA h (fun c2 h=>?_) fun c2 h=>?_)))
  ·cases h;exact aG hC [4] [(4,vB false)] zr
  refine qk (qs ?_);obtain⟨x1,hx1,h⟩:=bd h;refine aU hC [oV (w8 G hx1)] (fr 15 6) [(20,vB (!x1))] (bA h (fun c3 h=>?_) fun c3 h=>?_)
  ·cases h;exact aG hC [4] [(4,vB false)] zr
  refine qk (qs ?_);obtain⟨x2,hx2,h⟩:=bd h;refine aU hC [oV (w9 G hx2)] (fr 21 6) [(26,vB (!x2))] (bA h (fun c4 h=>?_) fun c4 h=>?_)
  ·cases h;exact aG hC [4] [(4,vB false)] zr
  refine qk (qs ?_);obtain⟨x3,hx3,h⟩:=bd h;refine aU hC [oV (aB0 G n (w_eqExpr n) (fun q0 q1 r h=>ih q0 q1 h) a.kids b.kids hx3)] (fr 27 6) [(32,vB (!x3))] (bA h (fun c5 h=>?_) fun c5 h=>?_)
  ·cases h;exact aG hC [4] [(4,vB false)] zr
  cases h;exact qk (aG hC [4] [(4,vB true)] zr)
theorem aDJ{a}{b}{r}(h:vW n a b=some r):PQ G 171 [V.agg (eN a),V.agg (eN b)] (vB r):=by
 refine pq aO Tryz.func171 rfl fun w X hC=>aU hC [.z (.b (true)),.z (.b (true))] [2,3,4] [(2,V.tp (jW a)),(3,V.tp (jW b))] (qs ?_);obtain⟨x1,hx1,h⟩:=bd h;refine aU hC [oV (w9 G hx1)] (fr 5 6) [(10,vB (!x1))] (bA h (fun c1 h=>?_) fun c1 h=>?_)
 ·cases h;exact aG hC [4] [(4,vB false)] zr
 refine qk (qs ?_);obtain⟨x2,hx2,h⟩:=bd h;refine aU hC [oV (aDM G n a.value b.value hx2)] (fr 11 6) [(16,vB (!x2))] (bA h (fun c2 h=>?_) fun c2 h=>?_)
 ·cases h;exact aG hC [4] [(4,vB false)] zr
 cases h;exact qk (aG hC [4] [(4,vB true)] zr)
theorem aBX{a}{b}{r}(h:xZ n a b=some r):PQ G 127 [vM aE a,vM aE b] (vB r):=by
 refine pq aO Tryz.func127 rfl fun w X hC=>bD hC [4] (qs (aU hC [oN aE a,oN aE b] (fr 6 5) [(10,vB (!decide ((a.length:Int)=(b.length:Int))))] (bA h (fun c1 h=>?_) fun c1 h=>?_)))
 ·cases h;exact aG hC [4] [(4,vB false)] zr
 refine qk (qs (aG hC [5] [(5,vI 0)] (qb (gY h (fun x_=>d8 [(0,vM aE a),(1,vM aE b),(5,vI x_)]) lS ?_))));rintro again2 x1 h;refine qs (aU hC [oN aE a] (fr 11 4) [(14,vK x1 a)] (bA h (fun c2 h=>?_) fun c2 h=>?_))
 ·refine qk (cL (qs ?_));obtain⟨x3,hx3,x4,hx4,x5,hx5,h⟩:=rA h;refine qU hC bL [oR aE hx3,oR aE hx4,oV (aDJ G hx5)] (fr 17 10) [(26,vB (!x5))] (bA h (fun c3 h=>?_) fun c3 h=>qk (aY hC [5,15,16] [(5,vI (wr (x1+1)))] (lE h)));cases h;exact aG hC [4] [(4,vB false)] zr
 cases h;exact cF (aG hC [4] [(4,vB true)] zr)
theorem aDK{a}{b}{r}(h:vX n a b=some r):PQ G 85 [V.agg (lW a),V.agg (lW b)] (vB r):=by
 refine pq aO Tryz.func85 rfl fun w X hC=>aU hC [.z (.b (true)),.z (.b (true))] [2,3,4] [(2,V.tp (gJ a)),(3,V.tp (gJ b))] (qs ?_);obtain⟨x1,hx1,h⟩:=bd h;refine aU hC [oV (aBZ G hx1)] (fr 5 6) [(10,vB (!x1))] (bA h (fun c1 h=>?_) fun c1 h=>?_)
 ·cases h;exact aG hC [4] [(4,vB false)] zr
 refine qk (qs ?_);obtain⟨x2,hx2,h⟩:=bd h;refine aU hC [oV (aBX G hx2)] (fr 11 6) [(16,vB (!x2))] (bA h (fun c2 h=>?_) fun c2 h=>?_)
 ·cases h;exact aG hC [4] [(4,vB false)] zr
 cases h;exact qk (aG hC [4] [(4,vB true)] zr)
theorem aBY{a}{b}{r}(h:yA n a b=some r):PQ G 46 [vM aF a,vM aF b] (vB r):=by
 refine pq aO Tryz.func46 rfl fun w X hC=>bD hC [4] (qs (aU hC [oN aF a,oN aF b] (fr 6 5) [(10,vB (!decide ((a.length:Int)=(b.length:Int))))] (bA h (fun c1 h=>?_) fun c1 h=>?_)))
 ·cases h;exact aG hC [4] [(4,vB false)] zr
 refine qk (qs (aG hC [5] [(5,vI 0)] (qb (gY h (fun x_=>d8 [(0,vM aF a),(1,vM aF b),(5,vI x_)]) lS ?_))));rintro again2 x1 h;refine qs (aU hC [oN aF a] (fr 11 4) [(14,vK x1 a)] (bA h (fun c2 h=>?_) fun c2 h=>?_))
 ·refine qk (cL (qs ?_));obtain⟨x3,hx3,x4,hx4,x5,hx5,h⟩:=rA h;refine qU hC bL [oR aF hx3,oR aF hx4,oV (aDK G hx5)] (fr 17 10) [(26,vB (!x5))] (bA h (fun c3 h=>?_) fun c3 h=>qk (aY hC [5,15,16] [(5,vI (wr (x1+1)))] (lE h)));cases h;exact aG hC [4] [(4,vB false)] zr
 cases h;exact cF (aG hC [4] [(4,vB true)] zr)
theorem eS{a}{b}{r}(h:dB n a b=some r):PQ G 12 [V.agg (cR a),V.agg (cR b)] (vB r):=by
 refine pq aO Tryz.func12 rfl fun w X hC=>aU hC [.z (.b (true)),.z (.b (true))] [2,3,4] [(2,V.tp (cK a)),(3,V.tp (cK b))] (qs ?_);obtain⟨x1,hx1,h⟩:=bd h;refine aU hC [oV (aAI G hx1)] (fr 5 6) [(10,vB (!x1))] (bA h (fun c1 h=>?_) fun c1 h=>?_)
 ·cases h;exact aG hC [4] [(4,vB false)] zr
 refine qk (qs ?_);obtain⟨x2,hx2,h⟩:=bd h;refine aU hC [oV (aBY G hx2)] (fr 11 6) [(16,vB (!x2))] (bA h (fun c2 h=>?_) fun c2 h=>?_)
 ·cases h;exact aG hC [4] [(4,vB false)] zr
 cases h;exact qk (aG hC [4] [(4,vB true)] zr)
theorem eK{k}{r}(h:bZ n k=some r):PQ G 86 [vI k] (vS r):=by
 refine pq aO Tryz.func86 rfl fun w X hC=>bD hC [2] (qs (aG hC [4,5] [(5,vD (k≤0))] (bA h (fun c1 h=>?_) fun c1 h=>?_)))
 ·obtain rfl:=so h;exact aG hC [2] [(2,vS [109,48])] zr
 refine qk (aG hC [3] [(3,vS [])] (cL (gY h (fun x_=>d8 [(0,vI x_.1),(3,vS x_.2)]) lS ?_)));rintro again3 ⟨x1,x2⟩ h;refine qs (aG hC [6,7] [(7,vD ((0:Int)<x1))] (bA h (fun c2 h=>?_) fun c2 h=>?_))
 ·refine qk (qb ?_);obtain⟨x4,hx4,h⟩:=bd h;exact aU hC [.z (.y (UInt8.ofInt (wr (48+(Int.tmod x1 10))))),.z (.int 0),.z (.str [UInt8.ofInt (wr (48+(Int.tmod x1 10)))]),oQ (show(10:Int)≠0 by decide),oQ (Eq.refl (UInt8.ofInt (wr (48+(Int.tmod x1 10))))),oQ (Eq.refl (List.map mG [UInt8.ofInt (wr (48+(Int.tmod x1 10)))])),oS hx4] [3,8,9,10,11,12,13,14,15] [(3,vS x4)] (bT hC [oQ (show(10:Int)≠0 by decide)] [0,16,17] [(0,vI (wr (Int.tdiv x1 10)))] (lE h))
 refine cF ?_;obtain⟨x5,hx5,h⟩:=bd h;obtain rfl:=so h;exact aU hC [oS hx5] [2,18,19] [(2,vS x5)] zr
theorem mB{a}{k}{r}(h:dW n a k=some r):PQ G 90 [vM rI a,vI k] (vI r):=by
 refine pq aO Tryz.func90 rfl fun w X hC=>bD hC [4] (qs (aG hC [5] [(5,vI 0)] (qb (gY h (fun x_=>d8 [(0,vM rI a),(1,vI x_.1),(5,vI x_.2)]) lS ?_))));rintro again3 ⟨x1,x2⟩ h;refine qs (aU hC [oN rI a] (fr 6 4) [(9,vK x2 a)] (bA h (fun c1 h=>?_) fun c1 h=>?_))
 ·refine qk (cL (qs ?_));obtain⟨x4,hx4,h⟩:=bd h;refine aU hC [oR rI hx4] (fr 12 6) [(17,vB (!decide (x4=x1)))] (bA h (fun c2 h=>?_) fun c2 h=>qk (aY hC [1,18,19] [(1,vI (wr (x1+1)))] (aY hC [5,10,11] [(5,vI (wr (x2+1)))] (lE h))));obtain rfl:=so h;exact aG hC [4] [(4,vI (-1))] zr
 obtain rfl:=so h;exact cF (aG hC [4,20] [(4,vI x1)] zr)
theorem L2{a}{k}{r}(h:gX n a k=some r):PQ G 49 [vM aJ a,vI k] (vI r):=by
 refine pq aO Tryz.func49 rfl fun w X hC=>bD hC [4] (qs (aG hC [5] [(5,vI 0)] (qb (gY h (fun x_=>d8 [(0,vM aJ a),(1,vI x_.1),(5,vI x_.2)]) lS ?_))));rintro again3 ⟨x1,x2⟩ h;refine qs (aU hC [oN aJ a] (fr 6 4) [(9,vK x2 a)] (bA h (fun c1 h=>?_) fun c1 h=>?_))
 ·refine qk (cL (qs (qs ?_)));obtain⟨x4,hx4,x5,hx5,h⟩:=dK h;refine qU hC bL [oR aJ hx4,oV (eK G hx5)] (fr 12 8) [(19,vB (!decide (x4.name=x5)))] (bA h (fun c2 h=>?_) fun c2 h=>?_)
  ·obtain rfl:=so h;exact aG hC [4] [(4,vI (-1))] zr
  refine qk (aG hC [1,20,21] [(1,vI (wr (x1+1)))] ?_);obtain⟨x6,hx6,h⟩:=bd h;refine aU hC [oR aJ hx4,oV (mB G hx6)] [1,22,23,24,25,26,27,28] [(1,vI x6)] (aG hC [29,30] [(30,vD (x6<0))] (bA h (fun c3 h=>?_) fun c3 h=>qk (aY hC [5,10,11] [(5,vI (wr (x2+1)))] (lE h))));obtain rfl:=so h;exact aG hC [4] [(4,vI (-1))] zr
 obtain rfl:=so h;exact cF (aG hC [4,31] [(4,vI x1)] zr)
theorem fX{a}{k}{r}(h:bO n a k=some r):PQ G 130 [vM aA a,vI k] (vI r):=by
 refine pq aO Tryz.func130 rfl fun w X hC=>bD hC [4] (qs (aG hC [5] [(5,vI 0)] (qb (gY h (fun x_=>d8 [(0,vM aA a),(1,vI x_.1),(5,vI x_.2)]) lS ?_))));rintro again3 ⟨x1,x2⟩ h;refine qs (aU hC [oN aA a] (fr 6 4) [(9,vK x2 a)] (bA h (fun c1 h=>?_) fun c1 h=>?_))
 ·refine qk (cL ?_);obtain⟨x4,hx4,x5,hx5,h⟩:=dK h;refine aU hC [oR aA hx4,oV (mB G hx5)] [1,12,13,14,15,16,17,18] [(1,vI x5)] (qs (aG hC [19,20] [(20,vD (x5<0))] (bA h (fun c2 h=>?_) fun c2 h=>?_)))
  ·obtain rfl:=so h;exact aG hC [4] [(4,vI (-1))] zr
  refine qk (qs (aU hC [oR aA hx4] (fr 21 7) [(27,vB (!decide (x4.const=x5)))] (bA h (fun c3 h=>?_) fun c3 h=>qk (aY hC [1,28,29] [(1,vI (wr (x5+1)))] (aY hC [5,10,11] [(5,vI (wr (x2+1)))] (lE h))))));obtain rfl:=so h;exact aG hC [4] [(4,vI (-1))] zr
 obtain rfl:=so h;exact cF (aG hC [4,30] [(4,vI x1)] zr)
theorem Q5{a}{k}{r}(h:gI n a k=some r):PQ G 91 [vM aD a,vI k] (vI r):=by
 refine pq aO Tryz.func91 rfl fun w X hC=>bD hC [4] (qs (aG hC [5] [(5,vI 0)] (qb (gY h (fun x_=>d8 [(0,vM aD a),(1,vI x_.1),(5,vI x_.2)]) lS ?_))));rintro again3 ⟨x1,x2⟩ h;refine qs (aU hC [oN aD a] (fr 6 4) [(9,vK x2 a)] (bA h (fun c1 h=>?_) fun c1 h=>?_))
 ·refine qk (cL ?_);obtain⟨x4,hx4,x5,hx5,h⟩:=dK h;refine aU hC [oR aD hx4,oV (fX G hx5)] [1,12,13,14,15,16,17,18] [(1,vI x5)] (qs (aG hC [19,20] [(20,vD (x5<0))] (bA h (fun c2 h=>?_) fun c2 h=>?_)))
  ·obtain rfl:=so h;exact aG hC [4] [(4,vI (-1))] zr
  refine qk ?_;obtain⟨x6,hx6,h⟩:=bd h;refine aU hC [oR aD hx4,oV (fX G hx6)] [1,21,22,23,24,25,26,27] [(1,vI x6)] (aG hC [28,29] [(29,vD (x6<0))] (bA h (fun c3 h=>?_) fun c3 h=>qk (aY hC [5,10,11] [(5,vI (wr (x2+1)))] (lE h))));obtain rfl:=so h;exact aG hC [4] [(4,vI (-1))] zr
 obtain rfl:=so h;exact cF (aG hC [4,30] [(4,vI x1)] zr)
theorem Q6(G:GS): ∀(n:Nat) (a:List Expr) (k:Int) {r:Int} (h:w_heldExprS n a k=some r),PQ G 131 [vM aC a,vI k] (vI r):=by
 intro n;induction n with
 |zero=>intro a k r h;rw [w_heldExprS.eq_def] at h;cases h
 |succ n ih=>
  intro a k r h;rw [w_heldExprS.eq_def] at h;dsimp only at h;refine pq aO Tryz.func131 rfl fun w X hC=>bD hC [4] (qs (aG hC [5] [(5,vI 0)] (qb (gY h (fun x_=>d8 [(0,vM aC a),(1,vI x_.1),(5,vI x_.2)]) lS ?_))));rintro again3 ⟨x1,x2⟩ h;refine qs (aU hC [oN aC a] (fr 6 4) [(9,vK x2 a)] (bA h (fun c1 h=>?_) fun c1 h=>?_))
  ·refine qk (cL (qs ?_));obtain⟨x4,hx4,h⟩:=bd h;refine aU hC [.z (.row (bG x4)),oQ (cG aC hx4 (aQ x4))] (fr 12 7) [(18,vB (!decide (x4.kind=x1)))] (bA h (fun c2 h=>?_) fun c2 h=>?_)
   ·obtain rfl:=so h;exact aG hC [4] [(4,vI (-1))] zr
   refine qk (aG hC [1,19,20] [(1,vI (wr (x1+1)))] (qs (aU hC [.z (.row (bG x4)),oQ (cG aC hx4 (aQ x4))] (fr 21 7) [(27,vB (!decide (x4.num=wr (x1+1))))] (bA h (fun c3 h=>?_) fun c3 h=>?_))))
   ·obtain rfl:=so h;exact aG hC [4] [(4,vI (-1))] zr
   refine qk (aG hC [1,28,29] [(1,vI (wr ((wr (x1+1))+1)))] ?_);obtain⟨x5,hx5,h⟩:=bd h;refine aU hC [.z (.row (bG x4)),oQ (cG aC hx4 (aQ x4)),oV (mB G hx5)] [1,30,31,32,33,34,35,36,37] [(1,vI x5)] (qs (aG hC [38,39] [(39,vD (x5<0))] (bA h (fun c4 h=>?_) fun c4 h=>?_)))
   ·obtain rfl:=so h;exact aG hC [4] [(4,vI (-1))] zr
   refine qk (qs (aU hC [.z (.row (bG x4)),oQ (cG aC hx4 (aQ x4))] (fr 40 8) [(47,vB (!decide (x4.index.const=x5)))] (bA h (fun c5 h=>?_) fun c5 h=>?_)))
   ·obtain rfl:=so h;exact aG hC [4] [(4,vI (-1))] zr
   refine qk (aG hC [1,48,49] [(1,vI (wr (x5+1)))] (qs (qs ?_)));obtain⟨x6,hx6,h⟩:=bd h;refine qU hC bL [.z (.row (bG x4)),oQ (cG aC hx4 (aQ x4)),oV (eK G hx6)] (fr 50 9) [(58,vB (!decide (x4.read.array=x6)))] (bA h (fun c6 h=>?_) fun c6 h=>?_)
   ·obtain rfl:=so h;exact aG hC [4] [(4,vI (-1))] zr
   refine qk (aG hC [1,59,60] [(1,vI (wr ((wr (x5+1))+1)))] ?_);obtain⟨x7,hx7,h⟩:=bd h;refine aU hC [.z (.row (bG x4)),oQ (cG aC hx4 (aQ x4)),oV (fX G hx7)] [1,61,62,63,64,65,66,67,68] [(1,vI x7)] (qs (aG hC [69,70] [(70,vD (x7<0))] (bA h (fun c7 h=>?_) fun c7 h=>?_)))
   ·obtain rfl:=so h;exact aG hC [4] [(4,vI (-1))] zr
   refine qk ?_;obtain⟨x8,hx8,h⟩:=bd h;refine aU hC [.z (.row (bG x4)),oQ (cG aC hx4 (aQ x4)),oV (ih x4.kids x7 hx8)] [1,71,72,73,74,75,76,77] [(1,vI x8)] (aG hC [78,79] [(79,vD (x8<0))] (bA h (fun c8 h=>?_) fun c8 h=>qk (aY hC [5,10,11] [(5,vI (wr (x2+1)))] (lE h))));obtain rfl:=so h;exact aG hC [4] [(4,vI (-1))] zr
  obtain rfl:=so h;exact cF (aG hC [4,80] [(4,vI x1)] zr)
theorem Q3{a}{k}{r}(h:gH n a k=some r):PQ G 92 [vM aE a,vI k] (vI r):=by
 refine pq aO Tryz.func92 rfl fun w X hC=>bD hC [4] (qs (aG hC [5] [(5,vI 0)] (qb (gY h (fun x_=>d8 [(0,vM aE a),(1,vI x_.1),(5,vI x_.2)]) lS ?_))));rintro again3 ⟨x1,x2⟩ h;refine qs (aU hC [oN aE a] (fr 6 4) [(9,vK x2 a)] (bA h (fun c1 h=>?_) fun c1 h=>?_))
 ·refine qk (cL (qs (qs ?_)));obtain⟨x4,hx4,x5,hx5,h⟩:=dK h;refine qU hC bL [oR aE hx4,oV (eK G hx5)] (fr 12 9) [(20,vB (!decide (x4.write.array=x5)))] (bA h (fun c2 h=>?_) fun c2 h=>?_)
  ·obtain rfl:=so h;exact aG hC [4] [(4,vI (-1))] zr
  refine qk (aG hC [1,21,22] [(1,vI (wr (x1+1)))] ?_);obtain⟨x6,hx6,h⟩:=bd h;refine aU hC [oR aE hx4,oV (fX G hx6)] [1,23,24,25,26,27,28,29,30] [(1,vI x6)] (qs (aG hC [31,32] [(32,vD (x6<0))] (bA h (fun c3 h=>?_) fun c3 h=>?_)))
  ·obtain rfl:=so h;exact aG hC [4] [(4,vI (-1))] zr
  refine qk (qs (aU hC [oR aE hx4] (fr 33 8) [(40,vB (!decide (x4.value.kind=x6)))] (bA h (fun c4 h=>?_) fun c4 h=>?_)))
  ·obtain rfl:=so h;exact aG hC [4] [(4,vI (-1))] zr
  refine qk (aG hC [1,41,42] [(1,vI (wr (x6+1)))] (qs (aU hC [oR aE hx4] (fr 43 8) [(50,vB (!decide (x4.value.num=wr (x6+1))))] (bA h (fun c5 h=>?_) fun c5 h=>?_))))
  ·obtain rfl:=so h;exact aG hC [4] [(4,vI (-1))] zr
  refine qk (aG hC [1,51,52] [(1,vI (wr ((wr (x6+1))+1)))] ?_);obtain⟨x7,hx7,h⟩:=bd h;refine aU hC [oR aE hx4,oV (mB G hx7)] [1,53,54,55,56,57,58,59,60,61] [(1,vI x7)] (qs (aG hC [62,63] [(63,vD (x7<0))] (bA h (fun c6 h=>?_) fun c6 h=>?_)))
  ·obtain rfl:=so h;exact aG hC [4] [(4,vI (-1))] zr
  refine qk (qs (aU hC [oR aE hx4] (fr 64 9) [(72,vB (!decide (x4.value.index.const=x7)))] (bA h (fun c7 h=>?_) fun c7 h=>?_)))
  ·obtain rfl:=so h;exact aG hC [4] [(4,vI (-1))] zr
  refine qk (aG hC [1,73,74] [(1,vI (wr (x7+1)))] (qs (qs ?_)));obtain⟨x8,hx8,h⟩:=bd h;refine qU hC bL [oR aE hx4,oV (eK G hx8)] (fr 75 10) [(84,vB (!decide (x4.value.read.array=x8)))] (bA h (fun c8 h=>?_) fun c8 h=>?_)
  ·obtain rfl:=so h;exact aG hC [4] [(4,vI (-1))] zr
  refine qk (aG hC [1,85,86] [(1,vI (wr ((wr (x7+1))+1)))] ?_);obtain⟨x9,hx9,h⟩:=bd h;refine aU hC [oR aE hx4,oV (fX G hx9)] [1,87,88,89,90,91,92,93,94,95] [(1,vI x9)] (qs (aG hC [96,97] [(97,vD (x9<0))] (bA h (fun c9 h=>?_) fun c9 h=>?_)))
  ·obtain rfl:=so h;exact aG hC [4] [(4,vI (-1))] zr
  refine qk ?_;obtain⟨x10,hx10,h⟩:=bd h;refine aU hC [oR aE hx4,oV (Q6 G n x4.value.kids x9 hx10)] [1,98,99,100,101,102,103,104,105] [(1,vI x10)] (aG hC [106,107] [(107,vD (x10<0))] (bA h (fun c10 h=>?_) fun c10 h=>qk (aY hC [5,10,11] [(5,vI (wr (x2+1)))] (lE h))));obtain rfl:=so h;exact aG hC [4] [(4,vI (-1))] zr
 obtain rfl:=so h;exact cF (aG hC [4,108] [(4,vI x1)] zr)
theorem Q4{a}{k}{r}(h:jA n a k=some r):PQ G 50 [vM aF a,vI k] (vI r):=by
 refine pq aO Tryz.func50 rfl fun w X hC=>bD hC [4] (qs (aG hC [5] [(5,vI 0)] (qb (gY h (fun x_=>d8 [(0,vM aF a),(1,vI x_.1),(5,vI x_.2)]) lS ?_))));rintro again3 ⟨x1,x2⟩ h;refine qs (aU hC [oN aF a] (fr 6 4) [(9,vK x2 a)] (bA h (fun c1 h=>?_) fun c1 h=>?_))
 ·refine qk (cL ?_);obtain⟨x4,hx4,x5,hx5,h⟩:=dK h;refine aU hC [oR aF hx4,oV (Q5 G hx5)] [1,12,13,14,15,16,17,18] [(1,vI x5)] (qs (aG hC [19,20] [(20,vD (x5<0))] (bA h (fun c2 h=>?_) fun c2 h=>?_)))
  ·obtain rfl:=so h;exact aG hC [4] [(4,vI (-1))] zr
  refine qk ?_;obtain⟨x6,hx6,h⟩:=bd h;refine aU hC [oR aF hx4,oV (Q3 G hx6)] [1,21,22,23,24,25,26,27] [(1,vI x6)] (aG hC [28,29] [(29,vD (x6<0))] (bA h (fun c3 h=>?_) fun c3 h=>qk (aY hC [5,10,11] [(5,vI (wr (x2+1)))] (lE h))));obtain rfl:=so h;exact aG hC [4] [(4,vI (-1))] zr
 obtain rfl:=so h;exact cF (aG hC [4,30] [(4,vI x1)] zr)
theorem qW{a}{k}{r}(h:eO n a k=some r):PQ G 14 [V.agg (cR a),vI k] (vI r):=by
 refine pq aO Tryz.func14 rfl fun w X hC=>aU hC [.z (.b (true))] [2,4] [(2,V.tp (cK a))] ?_;obtain⟨x1,hx1,h⟩:=bd h;refine aU hC [oV (L2 G hx1)] [1,5,6,7,8] [(1,vI x1)] (qs (aG hC [9,10] [(10,vD (x1<0))] (bA h (fun c1 h=>?_) fun c1 h=>?_)))
 ·obtain rfl:=so h;exact aG hC [4] [(4,vI (-1))] zr
 refine qk ?_;obtain⟨x2,hx2,h⟩:=bd h;refine aU hC [oV (Q4 G hx2)] [1,11,12,13,14] [(1,vI x2)] (qs (aG hC [15,16] [(16,vD (x2<0))] (bA h (fun c2 h=>?_) fun c2 h=>?_)))
 ·obtain rfl:=so h;exact aG hC [4] [(4,vI (-1))] zr
 obtain rfl:=so h;exact qk (aG hC [4,17] [(4,vI x2)] zr)
theorem aB9{n_a0}{r}(h:yJ n n_a0=some r):VQ G 51 [] [vI n_a0] (V.agg [ms 0 1 1 rI r.coefs,vI r.const]) [ar 3 1 1 rI r.coefs]:=by refine vq aO Tryz.func51 rfl fun w X β0 hC hg=>rq hC [.z (.nat 20)] [2] [(2,V.ref 20 0)] [(20,sc [aT,vI 0])] [(20,true)] ?_;obtain⟨x1,hx1,h⟩:=bd h;cases h;exact rq hC [oC [] [21] (M0 G n hx1),.z (.nat 22)] [3,4] [(3,V.ref 22 0)] [(21,some (ar 3 1 1 rI x1.coefs)),(22,sc [ms 21 1 1 rI x1.coefs,vI x1.const])] [(21,true),(22,true)] (gN hC [5,6] [(22,sc [ms 21 1 1 rI x1.coefs,vI n_a0])] [] (gN hC [7] [(20,sc [ms 21 1 1 rI x1.coefs,vI n_a0])] [] (qw (lk hC [.rn 21 0 [] [20,22]] [] [] [(20,sc [ms 0 1 1 rI x1.coefs,vI n_a0]),(22,sc [ms 0 1 1 rI x1.coefs,vI n_a0]),(21,none),(0,some (ar 3 1 1 rI x1.coefs))] [(0,true)]) zw)))
theorem R2{p}{part}{loop}{by_a3}{r}(h:jC n p part loop by_a3=some r):PQ G 15 [V.agg (cR p),vI part,vI loop,vI by_a3] (V.tup [V.agg (cR r.1),vB r.2]):=by
 refine pq aO Tryz.func15 rfl fun w X hC=>rq hC [.z (.nat 20),.z (.nat 21)] [4,8,9] [(4,V.ref 20 0),(8,V.ref 21 0)] [(20,some (E.cells (cR p))),(21,sc [aT,aT])] [(20,true),(21,true)] ?_;obtain⟨x1,hx1,h⟩:=bd h;refine gZ hC [oV (xC G hx1)] [10,11] [(20,some (E.cells (cR x1)))] [] (qs (vj h (fun x_=>cY [(1,vI part),(2,vI loop),(3,vI by_a3),(4,V.ref 20 0),(8,V.ref 21 0),(21,vB x_)] [(20,E.cells (cR x1)),(21,E.cells [aT,aT])] [20,21]) (fun j2 h=>?_) fun x5 h=>?_))
 ·obtain⟨x3,hx3,h⟩:=bd h;refine bF h (fun c1 h=>?_) fun c1 h=>bT hC ([oV (X3 G hx3)]++rT 4 c1) (fr 12 10) [(21,vB true)] (lE h);obtain⟨x4,hx4,h⟩:=bd h;exact bT hC [oV (X3 G hx3),oF c1,oF c1,oV (mD G hx4),oF c1,oF c1] (fr 12 10) [(21,vB (!x4))] (lE h)
 refine bA h (fun c2 h=>?_) fun c2 h=>?_
 ·cases h;exact rqa hC [9,22] [(9,vB false)] [(21,sc [aT,aT])] [] zr
 refine qk (qs ?_);obtain⟨x6,hx6,x7,hx7,x8,hx8,h⟩:=rA h;obtain⟨x9,hx9,h⟩:=bd h;cases h;exact dk hC bL [oR aF hx6,oC [] [22] (aB9 G hx7),.z (.at 7),.z (.fz 22 [32] []),oV (aDP G hx8),.z (.int 0),oV (aDN G hx9)] [9,23,24,25,26,27,28,29,30,31,32,33,34,35,36,37] [(9,vB x9.2)] [(22,none),(21,some (E.cells (cR x9.1)))] [(22,true)] zr
theorem B6(G:GS)(n:Nat)(a:Affine)(c0__a1:Int){r:Affine}(h:iP n a c0__a1=some r):PQ G 52 [V.agg (aL a),V.tp [T.int .i64 c0__a1]] (V.agg (aL r)):=by refine pq aO Tryz.func52 rfl fun w X hC=>rq hC [.z (.b (true)),.z (.nat 20)] [2,3] [(2,V.tp (aV a)),(3,V.ref 20 0)] [(20,sc [aT,vI 0])] [(20,true)] (qs ?_);obtain⟨x1,hx1,x2,hx2,h⟩:=dK h;obtain rfl:=so h;exact oJ hC bL [oC [] [21] (xE G hx1),.z (.at 2),.z (.fz 21 [6] []),oC [] [22] (aEV G hx2)] (fr 4 4) [(21,none),(22,some (ar 3 1 1 rI x2.coefs)),(20,sc [ms 22 1 1 rI x2.coefs,vI x2.const])] [(21,true),(22,true)] (qw (lk hC [.fz 22 [] [20]] [] [] [(20,some (E.cells (aL x2))),(22,none)] []) zr)
theorem B5(G:GS)(n:Nat)(a:Affine)(c0__a1:Int)(c1__a2:Affine){r:Affine}(h:f8 n a c0__a1 c1__a2=some r):PQ G 54 [V.agg (aL a),V.tp [T.int .i64 c0__a1],V.tp (aV c1__a2)] (V.agg (aL r)):=by refine pq aO Tryz.func54 rfl fun w X hC=>rq hC [.z (.b (true)),.z (.nat 20)] [3,4] [(3,V.tp (aV a)),(4,V.ref 20 0)] [(20,sc [aT,vI 0])] [(20,true)] ?_;obtain⟨x1,hx1,h⟩:=bd h;obtain rfl:=so h;exact gZ hC [oC [] [21] (aFI G hx1)] (fr 5 4) [(21,some (ar 3 1 1 rI x1.coefs)),(20,sc [ms 21 1 1 rI x1.coefs,vI x1.const])] [(21,true)] (qw (lk hC [.fz 21 [] [20]] [] [] [(20,some (E.cells (aL x1))),(21,none)] []) zr)
end Go.Lift
