/- The walks: the code computes what the plain functions say. -/
import Derived.Test.YtlbojjldejlgaaaGreatTModels
import Derived.Test.YtlbojjldejlgaaaGreatTWalks2
set_option maxRecDepth 10000
set_option linter.unusedVariables false
namespace Go.Lift
open Go Go.Proofs
variable (G:GS) {n:Nat}
theorem Q6(G:GS): ∀(n:Nat) (e:Expr) (changeF:FuncId) (changeC0:List T) (change:Affine→Option Affine) (hchange: ∀(q0:Affine) r,change q0=some r→PQ G changeF [V.agg (aQ q0),V.tp changeC0] (V.agg (aQ r))) {r:Expr} (h:i_exprMap n e change=some r),PQ G 124 [V.agg (dR e),V.fn changeF [V.tp changeC0]] (V.agg (dR r)):=by
 intro n;induction n with
 |zero=>intro e changeF changeC0 change hchange r h;rw [i_exprMap.eq_def] at h;cases h
 |succ n ih=>
  intro e changeF changeC0 change hchange r h;rw [i_exprMap.eq_def] at h;dsimp only at h;refine pq aN Tryz.func124 rfl fun w X hC=>rq hC [.z (.b (true)),.z (.nat 20)] [2,4] [(2,V.tp (dQ e)),(4,V.ref 20 0)] [(20,sc [vI 0,vI 0,aU,vI 0,vS [],aU,aU])] [(20,true)] (rq hC [.z (.nat 21)] [5,8,9,10,11,12] [(5,V.ref 21 0)] [(21,sc [vI e.kind,vI e.num,aU,vI 0,vS [],aU,aU])] [(21,true)] (vj h (fun x_=>dG [(1,V.fn changeF [V.tp changeC0]),(2,V.tp (dQ e)),(4,V.ref 20 0),(5,V.ref 21 0)] [(20,E.cells [vI 0,vI 0,aU,vI 0,vS [],aU,aU]),(21,E.cells [vI e.kind,vI e.num,vM rI x_.1,vI x_.2.1,vS x_.2.2.1,vM aA x_.2.2.2,aU])] [20,21]) (fun j1 h=>?_) ?_))
  ·refine aG hC [13,14] [(14,vI e.kind)] (qb (aG hC [15,16] [(15,vD (e.kind=2))] (aY h (fun c1 h=>?_) fun c1 h=>?_)))
   ·obtain⟨x2,hx2,h⟩:=bd h;exact rkt hC [oV (hchange e.index _ hx2)] (fr 17 5) [(21,sc [vI e.kind,vI e.num,vM rI x2.coefs,vI x2.const,vS [],aU,aU])] [] (lE h)
   refine aG hC [22,23] [(22,vD (e.kind=3))] (aY h (fun c2 h=>?_) fun c2 h=>qk (lE h));obtain⟨x3,hx3,h⟩:=bd h;exact rkt hC [oV (qA G n e.read changeF changeC0 change hchange hx3)] (fr 24 5) [(21,sc [vI e.kind,vI e.num,aU,vI 0,vS x3.array,vM aA x3.subs,aU])] [] (lE h)
  rintro⟨x4,x5,x6,x7⟩ h;refine qs (aT hC [oN aC e.kids] (fr 29 4) [(30,vM aC e.kids),(31,vI (e.kids.length:Int)),(32,vI 0)] (qb (qw (lk hC [.growc 21 6 22 108] [] [] [(22,some (ar 108 1 7 aC [])),(21,sc [vI e.kind,vI e.num,vM rI x4,vI x5,vS x6,vM aA x7,ms 22 1 7 aC []])] [(22,true)]) (l5 h (fun x_ g_=>dG [(1,V.fn changeF [V.tp changeC0]),(4,V.ref 20 0),(5,V.ref 21 0),(30,vM aC e.kids),(31,vI (e.kids.length:Int)),(32,vI x_.2)] [(20,E.cells [vI 0,vI 0,aU,vI 0,vS [],aU,aU]),(21,E.cells [vI e.kind,vI e.num,vM rI x4,vI x5,vS x6,vM aA x7,ms 22 g_ 7 aC x_.1]),(22,ar 108 g_ 7 aC x_.1)] [20,21,22]) 1 (lS) ?_))));rintro again11 ⟨x8,x9⟩ g10 h;refine aG hC [33] [(33,vK x9 e.kids)] (oU h (fun c3 h=>?_) fun c3 h=>?_)
  ·refine qk (cU ?_);obtain⟨x12,hx12,h⟩:=bd h;refine rq hC [.z (.row (bF x12)),.z (.nat 23),oQ (cH aC hx12 (aO x12))] [7,34,35] [(7,V.ref 23 0)] [(23,some (E.cells (dR x12)))] [(23,true)] ?_;obtain⟨x13,hx13,x14,hx14,h⟩:=dL h;exact pR hC bJ [oV (ih x12 changeF changeC0 change hchange hx13),.z (.int 2),.z (.rows (List.map aC [x13])),oQ (xY x13),oA (aX aC hx14),oM 7 eH x8,oM 7 eH [x13]] (fr 36 8) [(22,some (ar 108 (g10+1) 7 aC x14)),(21,sc [vI e.kind,vI e.num,vM rI x4,vI x5,vS x6,vM aA x7,ms 22 (g10+1) 7 aC x14])] [] (aZ hC [32,44] [(32,vI (wr (x9+1)))] ⟨(x14,wr (x9+1)),(g10+1),h,lS⟩)
  cases h;exact cM (iL hC [.z (.at 2),.z (.fz 22 [] [21])] [45] [(21,sc [vI e.kind,vI e.num,vM rI x4,vI x5,vS x6,vM aA x7,vM aC x8]),(22,none),(20,sc [vI e.kind,vI e.num,vM rI x4,vI x5,vS x6,vM aA x7,vM aC x8])] [] zr)
theorem Q4(G:GS)(n:Nat)(s:Stmt)(changeF:FuncId)(changeC0:List T)(change:Affine→Option Affine)(hchange: ∀(q0:Affine) r,change q0=some r→PQ G changeF [V.agg (aQ q0),V.tp changeC0] (V.agg (aQ r))){r:Stmt}(h:iG n s change=some r):PQ G 83 [V.agg (eQ s),V.fn changeF [V.tp changeC0]] (V.agg (eQ r)):=by refine pq aN Tryz.func83 rfl fun w X hC=>rq hC [.z (.b (true)),.z (.nat 20)] [2,4] [(2,V.tp (kI s)),(4,V.ref 20 0)] [(20,sc [vS [],aU,vI 0,vI 0,aU,vI 0,vS [],aU,aU])] [(20,true)] (qs ?_);obtain⟨x1,hx1,x2,hx2,h⟩:=dL h;cases h;exact pR hC bJ [oV (qA G n s.write changeF changeC0 change hchange hx1),oV (Q6 G n s.value changeF changeC0 change hchange hx2)] (fr 5 9) [(20,sc [vS x1.array,vM aA x1.subs,vI x2.kind,vI x2.num,vM rI x2.index.coefs,vI x2.index.const,vS x2.read.array,vM aA x2.read.subs,vM aC x2.kids])] [] zr
theorem tO(G:GS)(n:Nat)(rows:List Part)(i:Int)(p:Part)(hp:ix rows i=some p)(g:Nat)(from_:Int)(fF:FuncId)(fC0:List T)(f:Affine→Option Affine)(hf: ∀(q0:Affine) r,f q0=some r→PQ G fF [V.agg (aQ q0),V.tp fC0] (V.agg (aQ r))){p':Part}{rows':List Part}(h:lJ n p from_ f=some p')(hr:dM rows i p'=some rows'):
  VQ G 41 [E.tree fH 0 g (rows.map aE) []] [V.eref 0 g 2 (0+Int.toNat i) 0,vI from_,V.fn fF [V.tp fC0]] (V.tup []) [E.tree fH 0 g (List.map aE rows') []]:=by
 refine vq aN Tryz.func41 rfl fun w X β0 hC hg=>qs (aG hC [6,9] [(6,vI from_)] (qw (rV hC [.foc 0 21 (0+Int.toNat i) 0 (aE p),.foc 0 22 (0+Int.toNat i) 1 (aE p),.shd 22] [] [] [(0,some (E.tree fH 0 g (rows.map aE) [((0+Int.toNat i),1,ms 22 1 9 aF p.body),((0+Int.toNat i),0,ms 21 1 2 aD p.nest)])),(21,some (E.tree fH 1 1 (p.nest.map aD) [])),(22,some (ar 110 1 9 aF p.body))] [(21,true),(22,true)] (a2 (eD aE hp) (eD aE hp)) (by kernel_rfl)) (qb (iB h (fun x_=>dG [(0,V.eref 0 g 2 (0+Int.toNat i) 0),(2,V.fn fF [V.tp fC0]),(6,vI x_.2)] [(0,E.tree fH 0 g (rows.map aE) [((0+Int.toNat i),1,ms 22 1 9 aF p.body),((0+Int.toNat i),0,ms 21 1 2 aD p.nest)]),(21,E.tree fH 1 1 (x_.1.map aD) []),(22,ar 110 1 9 aF p.body)] [0,21,22]) lS ?_))));rintro again1 ⟨x,k⟩ h;obtain⟨s1,hs1,h⟩:=bd h;refine qs (aT hC [oX aE hp,.z (.nat x.length),oQ (aNK aD hs1)] (fr 10 7) [(16,vD (k<(x.length:Int)))] (aY h (fun c1 h=>?_) fun c1 h=>?_))
 ·refine qk (cU ?_);obtain⟨x2,hx2,x3,hx3,x4,hx4,h⟩:=rR h;exact rkt hC [oX aE hp,oQ (aM5 aD hs1 hx2),oC [21] [] (tP G n x k x2 hx2 1 fF fC0 f hf hx3 hx4)] (fr 19 8) [(21,some (E.tree fH 1 1 (x4.map aD) []))] [(21,true)] (aZ hC [6,17,18] [(6,vI (wr (k+1)))] (lE h))
 refine cM (aT hC [oX aE hp,oN aF p.body] (fr 27 6) [(30,ms 22 1 9 aF p.body),(31,vI (p.body.length:Int)),(32,vI 0)] (qb (iB h (fun x_=>dG [(0,V.eref 0 g 2 (0+Int.toNat i) 0),(2,V.fn fF [V.tp fC0]),(30,ms 22 1 9 aF x_.1),(31,vI (p.body.length:Int)),(32,vI x_.2)] [(0,E.tree fH 0 g (rows.map aE) [((0+Int.toNat i),1,ms 22 1 9 aF p.body),((0+Int.toNat i),0,ms 21 1 2 aD p.nest)]),(21,E.tree fH 1 1 (x.map aD) []),(22,ar 110 1 9 aF x_.1)] [0,21,22]) lS ?_)));rintro again2 ⟨y,j⟩ h;obtain⟨s2,hs2,h⟩:=bd h;refine aG hC [33] [(33,vD (j<(p.body.length:Int)))] (oU h (fun c2 h=>?_) fun c2 h=>?_)
 ·refine qk (cU ?_);obtain⟨x6,hx6,h⟩:=bd h;refine rq hC [oQ (mB aF hx6),oX aF hx6,.z (.nat 24)] [7,8,34,35,36] [(7,vI j),(8,V.ref 24 0)] [(24,some (E.cells (eQ x6)))] [(24,true)] ?_;obtain⟨x7,hx7,x8,hx8,h⟩:=dL h;exact pR hC bJ [oX aE hp,oV (Q4 G n x6 fF fC0 f hf hx7),oQ (aM5 aF hs2 hx6),oX aF hx6,.z (.rows (x8.map aF)),oQ (str aF hx8)] (fr 37 9) [(22,some (ar 110 1 9 aF x8))] [] (qw (rV hC [.len 30 (x8.map aF).length] [30] [(30,ms 22 1 9 aF x8)] [] [] (a1 (kG aF hx8)) (by kernel_rfl)) (aZ hC [32,46] [(32,vI (wr (j+1)))] (lE h)))
 cases h;exact qw (rV hC [.tre 22 fH 2,.unf 0 22 (aE p) (List.map aE (rows.set i.toNat (⟨p.nest,y⟩:Part))),.unf 0 21 (aE (⟨p.nest,y⟩:Part)) (List.map aE rows')] [] [] [(22,none),(21,none),(0,some (E.tree fH 0 g (List.map aE rows') []))] [] (a8 (sH aF hs2) (Eq.refl fH) (eD aE hp) (aHm aE (aBZ hr (⟨p.nest,y⟩:Part)) rfl) (sH aD hs1) (Eq.refl fH) (eD aE (aHP hr (⟨p.nest,y⟩:Part))) (aHm aE (aBY hr (⟨p.nest,y⟩:Part)) rfl)) (by kernel_rfl)) (cM eW)
theorem P1{a}{b}{r}(h:r6 n a b=some r):PQ G 125 [vM rI a,vM rI b] (vB r):=by
 refine pq aN Tryz.func125 rfl fun w X hC=>bC hC [4] (qs (aT hC [oN rI a,oN rI b] (fr 6 5) [(10,vB (!decide ((a.length:Int)=(b.length:Int))))] (aY h (fun c1 h=>?_) fun c1 h=>?_)))
 ·cases h;exact aG hC [4] [(4,vB false)] zr
 refine qk (qs (aG hC [5] [(5,vI 0)] (qb (iB h (fun x_=>dZ [(0,vM rI a),(1,vM rI b),(5,vI x_)]) lS ?_))));rintro again2 x1 h;refine qs (aT hC [oN rI a] (fr 11 4) [(14,vK x1 a)] (aY h (fun c2 h=>?_) fun c2 h=>?_))
 ·refine qk (cU (qs ?_));obtain⟨x3,hx3,x4,hx4,h⟩:=dL h;refine pS hC bJ [oR rI hx3,oR rI hx4] (fr 17 9) [(25,vB (!decide (x3=x4)))] (aY h (fun c3 h=>?_) fun c3 h=>qk (aZ hC [5,15,16] [(5,vI (wr (x1+1)))] (lE h)));cases h;exact aG hC [4] [(4,vB false)] zr
 cases h;exact cM (aG hC [4] [(4,vB true)] zr)
theorem aCQ{a}{b}{r}(h:tW n a b=some r):PQ G 84 [V.agg [vS a.name,vM rI a.dims],V.agg [vS b.name,vM rI b.dims]] (vB r):=by
 refine pq aN Tryz.func84 rfl fun w X hC=>aT hC [.z (.b (true)),.z (.b (true))] [2,3,4] [(2,V.tp [T.str a.name,T.sl (List.map rI a.dims)]),(3,V.tp [T.str b.name,T.sl (List.map rI b.dims)])] (qs (aG hC (fr 5 5) [(9,vB (!decide (a.name=b.name)))] (aY h (fun c1 h=>?_) fun c1 h=>?_)))
 ·cases h;exact aG hC [4] [(4,vB false)] zr
 refine qk (qs ?_);obtain⟨x1,hx1,h⟩:=bd h;refine aT hC [oV (P1 G hx1)] (fr 10 6) [(15,vB (!x1))] (aY h (fun c2 h=>?_) fun c2 h=>?_)
 ·cases h;exact aG hC [4] [(4,vB false)] zr
 cases h;exact qk (aG hC [4] [(4,vB true)] zr)
theorem aBr{a}{b}{r}(h:vQ n a b=some r):PQ G 45 [vM aJ a,vM aJ b] (vB r):=by
 refine pq aN Tryz.func45 rfl fun w X hC=>bC hC [4] (qs (aT hC [oN aJ a,oN aJ b] (fr 6 5) [(10,vB (!decide ((a.length:Int)=(b.length:Int))))] (aY h (fun c1 h=>?_) fun c1 h=>?_)))
 ·cases h;exact aG hC [4] [(4,vB false)] zr
 refine qk (qs (aG hC [5] [(5,vI 0)] (qb (iB h (fun x_=>dZ [(0,vM aJ a),(1,vM aJ b),(5,vI x_)]) lS ?_))));rintro again2 x1 h;refine qs (aT hC [oN aJ a] (fr 11 4) [(14,vK x1 a)] (aY h (fun c2 h=>?_) fun c2 h=>?_))
 ·refine qk (cU (qs ?_));obtain⟨x3,hx3,x4,hx4,x5,hx5,h⟩:=rR h;refine pS hC bJ [oR aJ hx3,oR aJ hx4,oV (aCQ G hx5)] (fr 17 10) [(26,vB (!x5))] (aY h (fun c3 h=>?_) fun c3 h=>qk (aZ hC [5,15,16] [(5,vI (wr (x1+1)))] (lE h)));cases h;exact aG hC [4] [(4,vB false)] zr
 cases h;exact cM (aG hC [4] [(4,vB true)] zr)
theorem yB{a}{b}{r}(h:nC n a b=some r):PQ G 246 [V.agg (aQ a),V.agg (aQ b)] (vB r):=by
 refine pq aN Tryz.func246 rfl fun w X hC=>aT hC [.z (.b (true)),.z (.b (true))] [2,3,4] [(2,V.tp (bA a)),(3,V.tp (bA b))] (qs ?_);obtain⟨x1,hx1,h⟩:=bd h;refine aT hC [oV (P1 G hx1)] (fr 5 6) [(10,vB (!x1))] (aY h (fun c1 h=>?_) fun c1 h=>?_)
 ·cases h;exact aG hC [4] [(4,vB false)] zr
 refine qk (qs (aG hC (fr 11 5) [(15,vB (!decide (a.const=b.const)))] (aY h (fun c2 h=>?_) fun c2 h=>?_)))
 ·cases h;exact aG hC [4] [(4,vB false)] zr
 cases h;exact qk (aG hC [4] [(4,vB true)] zr)
theorem o0{a}{b}{r}(h:lR n a b=some r):PQ G 212 [vM aA a,vM aA b] (vB r):=by
 refine pq aN Tryz.func212 rfl fun w X hC=>bC hC [4] (qs (aT hC [oN aA a,oN aA b] (fr 6 5) [(10,vB (!decide ((a.length:Int)=(b.length:Int))))] (aY h (fun c1 h=>?_) fun c1 h=>?_)))
 ·cases h;exact aG hC [4] [(4,vB false)] zr
 refine qk (qs (aG hC [5] [(5,vI 0)] (qb (iB h (fun x_=>dZ [(0,vM aA a),(1,vM aA b),(5,vI x_)]) lS ?_))));rintro again2 x1 h;refine qs (aT hC [oN aA a] (fr 11 4) [(14,vK x1 a)] (aY h (fun c2 h=>?_) fun c2 h=>?_))
 ·refine qk (cU (qs ?_));obtain⟨x3,hx3,x4,hx4,x5,hx5,h⟩:=rR h;refine pS hC bJ [oR aA hx3,oR aA hx4,oV (yB G hx5)] (fr 17 10) [(26,vB (!x5))] (aY h (fun c3 h=>?_) fun c3 h=>qk (aZ hC [5,15,16] [(5,vI (wr (x1+1)))] (lE h)));cases h;exact aG hC [4] [(4,vB false)] zr
 cases h;exact cM (aG hC [4] [(4,vB true)] zr)
theorem aEw{a}{b}{r}(h:wY n a b=some r):PQ G 170 [V.agg (jZ a),V.agg (jZ b)] (vB r):=by
 refine pq aN Tryz.func170 rfl fun w X hC=>aT hC [.z (.b (true)),.z (.b (true))] [2,3,4] [(2,V.tp (jE a)),(3,V.tp (jE b))] (qs ?_);obtain⟨x1,hx1,h⟩:=bd h;refine aT hC [oV (o0 G hx1)] (fr 5 6) [(10,vB (!x1))] (aY h (fun c1 h=>?_) fun c1 h=>?_)
 ·cases h;exact aG hC [4] [(4,vB false)] zr
 refine qk (qs ?_);obtain⟨x2,hx2,h⟩:=bd h;refine aT hC [oV (o0 G hx2)] (fr 11 6) [(16,vB (!x2))] (aY h (fun c2 h=>?_) fun c2 h=>?_)
 ·cases h;exact aG hC [4] [(4,vB false)] zr
 cases h;exact qk (aG hC [4] [(4,vB true)] zr)
theorem aCO{a}{b}{r}(h:zE n a b=some r):PQ G 126 [vM aD a,vM aD b] (vB r):=by
 refine pq aN Tryz.func126 rfl fun w X hC=>bC hC [4] (qs (aT hC [oN aD a,oN aD b] (fr 6 5) [(10,vB (!decide ((a.length:Int)=(b.length:Int))))] (aY h (fun c1 h=>?_) fun c1 h=>?_)))
 ·cases h;exact aG hC [4] [(4,vB false)] zr
 refine qk (qs (aG hC [5] [(5,vI 0)] (qb (iB h (fun x_=>dZ [(0,vM aD a),(1,vM aD b),(5,vI x_)]) lS ?_))));rintro again2 x1 h;refine qs (aT hC [oN aD a] (fr 11 4) [(14,vK x1 a)] (aY h (fun c2 h=>?_) fun c2 h=>?_))
 ·refine qk (cU (qs ?_));obtain⟨x3,hx3,x4,hx4,x5,hx5,h⟩:=rR h;refine pS hC bJ [oR aD hx3,oR aD hx4,oV (aEw G hx5)] (fr 17 10) [(26,vB (!x5))] (aY h (fun c3 h=>?_) fun c3 h=>qk (aZ hC [5,15,16] [(5,vI (wr (x1+1)))] (lE h)));cases h;exact aG hC [4] [(4,vB false)] zr
 cases h;exact cM (aG hC [4] [(4,vB true)] zr)
theorem yC{a}{b}{r}(h:nD n a b=some r):PQ G 213 [V.agg (cJ a),V.agg (cJ b)] (vB r):=by
 refine pq aN Tryz.func213 rfl fun w X hC=>aT hC [.z (.b (true)),.z (.b (true))] [2,3,4] [(2,V.tp (cO a)),(3,V.tp (cO b))] (qs (aG hC (fr 5 5) [(9,vB (!decide (a.array=b.array)))] (aY h (fun c1 h=>?_) fun c1 h=>?_)))
 ·cases h;exact aG hC [4] [(4,vB false)] zr
 refine qk (qs ?_);obtain⟨x1,hx1,h⟩:=bd h;refine aT hC [oV (o0 G hx1)] (fr 10 6) [(15,vB (!x1))] (aY h (fun c2 h=>?_) fun c2 h=>?_)
 ·cases h;exact aG hC [4] [(4,vB false)] zr
 cases h;exact qk (aG hC [4] [(4,vB true)] zr)
theorem aCP(G:GS)(n:Nat)(self:Expr→Expr→Option Bool)(hself: ∀(q0:Expr) (q1:Expr) {r:Bool},self q0 q1=some r→PQ G 214 [V.agg (dR q0),V.agg (dR q1)] (vB r))(a:List Expr)(b:List Expr){r:Bool}(h:zF n self a b=some r):PQ G 247 [vM aC a,vM aC b] (vB r):=by
 refine pq aN Tryz.func247 rfl fun w X hC=>bC hC [4] (qs (aT hC [oN aC a,oN aC b] (fr 6 5) [(10,vB (!decide ((a.length:Int)=(b.length:Int))))] (aY h (fun c1 h=>?_) fun c1 h=>?_)))
 ·cases h;exact aG hC [4] [(4,vB false)] zr
 refine qk (qs (aG hC [5] [(5,vI 0)] (qb (iB h (fun x_=>dZ [(0,vM aC a),(1,vM aC b),(5,vI x_)]) lS ?_))));rintro again2 x1 h;refine qs (aT hC [oN aC a] (fr 11 4) [(14,vK x1 a)] (aY h (fun c2 h=>?_) fun c2 h=>?_))
 ·refine qk (cU (qs ?_));obtain⟨x3,hx3,x4,hx4,x5,hx5,h⟩:=rR h;refine pS hC bJ [.z (.row (bF x3)),.z (.row (bF x4)),oQ (cH aC hx3 (aO x3)),oQ (cH aC hx4 (aO x4)),oV (hself x3 x4 hx5)] (fr 17 10) [(26,vB (!x5))] (aY h (fun c3 h=>?_) fun c3 h=>qk (aZ hC [5,15,16] [(5,vI (wr (x1+1)))] (lE h)));cases h;exact aG hC [4] [(4,vB false)] zr
 cases h;exact cM (aG hC [4] [(4,vB true)] zr)
theorem aEx(G:GS): ∀(n:Nat) (a:Expr) (b:Expr) {r:Bool} (h:w_eqExpr n a b=some r),PQ G 214 [V.agg (dR a),V.agg (dR b)] (vB r):=by
 intro n;induction n with
 |zero=>intro a b r h;rw [w_eqExpr.eq_def] at h;cases h
 |succ n ih=>
  intro a b r h;rw [w_eqExpr.eq_def] at h;dsimp only at h;refine pq aN Tryz.func214 rfl fun w X hC=>aT hC [.z (.b (true)),.z (.b (true))] [2,3,4] [(2,V.tp (dQ a)),(3,V.tp (dQ b))] (qs (aG hC (fr 5 5) [(9,vB (!decide (a.kind=b.kind)))] (aY h (fun c1 h=>?_) fun c1 h=>?_)))
  ·cases h;exact aG hC [4] [(4,vB false)] zr
  refine qk (qs (aG hC (fr 10 5) [(14,vB (!decide (a.num=b.num)))] (aY h (fun c2 h=>?_) fun c2 h=>?_)))
  ·cases h;exact aG hC [4] [(4,vB false)] zr
  refine qk (qs ?_);obtain⟨x1,hx1,h⟩:=bd h;refine aT hC [oV (yB G hx1)] (fr 15 6) [(20,vB (!x1))] (aY h (fun c3 h=>?_) fun c3 h=>?_)
  ·cases h;exact aG hC [4] [(4,vB false)] zr
  refine qk (qs ?_);obtain⟨x2,hx2,h⟩:=bd h;refine aT hC [oV (yC G hx2)] (fr 21 6) [(26,vB (!x2))] (aY h (fun c4 h=>?_) fun c4 h=>?_)
  ·cases h;exact aG hC [4] [(4,vB false)] zr
  refine qk (qs ?_);obtain⟨x3,hx3,h⟩:=bd h;refine aT hC [oV (aCP G n (w_eqExpr n) (fun q0 q1 r h=>ih q0 q1 h) a.kids b.kids hx3)] (fr 27 6) [(32,vB (!x3))] (aY h (fun c5 h=>?_) fun c5 h=>?_)
  ·cases h;exact aG hC [4] [(4,vB false)] zr
  cases h;exact qk (aG hC [4] [(4,vB true)] zr)
theorem aEu{a}{b}{r}(h:wW n a b=some r):PQ G 171 [V.agg (eQ a),V.agg (eQ b)] (vB r):=by
 refine pq aN Tryz.func171 rfl fun w X hC=>aT hC [.z (.b (true)),.z (.b (true))] [2,3,4] [(2,V.tp (kI a)),(3,V.tp (kI b))] (qs ?_);obtain⟨x1,hx1,h⟩:=bd h;refine aT hC [oV (yC G hx1)] (fr 5 6) [(10,vB (!x1))] (aY h (fun c1 h=>?_) fun c1 h=>?_)
 ·cases h;exact aG hC [4] [(4,vB false)] zr
 refine qk (qs ?_);obtain⟨x2,hx2,h⟩:=bd h;refine aT hC [oV (aEx G n a.value b.value hx2)] (fr 11 6) [(16,vB (!x2))] (aY h (fun c2 h=>?_) fun c2 h=>?_)
 ·cases h;exact aG hC [4] [(4,vB false)] zr
 cases h;exact qk (aG hC [4] [(4,vB true)] zr)
theorem aCM{a}{b}{r}(h:zC n a b=some r):PQ G 127 [vM aF a,vM aF b] (vB r):=by
 refine pq aN Tryz.func127 rfl fun w X hC=>bC hC [4] (qs (aT hC [oN aF a,oN aF b] (fr 6 5) [(10,vB (!decide ((a.length:Int)=(b.length:Int))))] (aY h (fun c1 h=>?_) fun c1 h=>?_)))
 ·cases h;exact aG hC [4] [(4,vB false)] zr
 refine qk (qs (aG hC [5] [(5,vI 0)] (qb (iB h (fun x_=>dZ [(0,vM aF a),(1,vM aF b),(5,vI x_)]) lS ?_))));rintro again2 x1 h;refine qs (aT hC [oN aF a] (fr 11 4) [(14,vK x1 a)] (aY h (fun c2 h=>?_) fun c2 h=>?_))
 ·refine qk (cU (qs ?_));obtain⟨x3,hx3,x4,hx4,x5,hx5,h⟩:=rR h;refine pS hC bJ [oR aF hx3,oR aF hx4,oV (aEu G hx5)] (fr 17 10) [(26,vB (!x5))] (aY h (fun c3 h=>?_) fun c3 h=>qk (aZ hC [5,15,16] [(5,vI (wr (x1+1)))] (lE h)));cases h;exact aG hC [4] [(4,vB false)] zr
 cases h;exact cM (aG hC [4] [(4,vB true)] zr)
theorem aEv{a}{b}{r}(h:wX n a b=some r):PQ G 85 [V.agg (nS a),V.agg (nS b)] (vB r):=by
 refine pq aN Tryz.func85 rfl fun w X hC=>aT hC [.z (.b (true)),.z (.b (true))] [2,3,4] [(2,V.tp (jD a)),(3,V.tp (jD b))] (qs ?_);obtain⟨x1,hx1,h⟩:=bd h;refine aT hC [oV (aCO G hx1)] (fr 5 6) [(10,vB (!x1))] (aY h (fun c1 h=>?_) fun c1 h=>?_)
 ·cases h;exact aG hC [4] [(4,vB false)] zr
 refine qk (qs ?_);obtain⟨x2,hx2,h⟩:=bd h;refine aT hC [oV (aCM G hx2)] (fr 11 6) [(16,vB (!x2))] (aY h (fun c2 h=>?_) fun c2 h=>?_)
 ·cases h;exact aG hC [4] [(4,vB false)] zr
 cases h;exact qk (aG hC [4] [(4,vB true)] zr)
theorem aCN{a}{b}{r}(h:zD n a b=some r):PQ G 46 [vM aE a,vM aE b] (vB r):=by
 refine pq aN Tryz.func46 rfl fun w X hC=>bC hC [4] (qs (aT hC [oN aE a,oN aE b] (fr 6 5) [(10,vB (!decide ((a.length:Int)=(b.length:Int))))] (aY h (fun c1 h=>?_) fun c1 h=>?_)))
 ·cases h;exact aG hC [4] [(4,vB false)] zr
 refine qk (qs (aG hC [5] [(5,vI 0)] (qb (iB h (fun x_=>dZ [(0,vM aE a),(1,vM aE b),(5,vI x_)]) lS ?_))));rintro again2 x1 h;refine qs (aT hC [oN aE a] (fr 11 4) [(14,vK x1 a)] (aY h (fun c2 h=>?_) fun c2 h=>?_))
 ·refine qk (cU (qs ?_));obtain⟨x3,hx3,x4,hx4,x5,hx5,h⟩:=rR h;refine pS hC bJ [oR aE hx3,oR aE hx4,oV (aEv G hx5)] (fr 17 10) [(26,vB (!x5))] (aY h (fun c3 h=>?_) fun c3 h=>qk (aZ hC [5,15,16] [(5,vI (wr (x1+1)))] (lE h)));cases h;exact aG hC [4] [(4,vB false)] zr
 cases h;exact cM (aG hC [4] [(4,vB true)] zr)
theorem eX{a}{b}{r}(h:dC n a b=some r):PQ G 12 [V.agg (cR a),V.agg (cR b)] (vB r):=by
 refine pq aN Tryz.func12 rfl fun w X hC=>aT hC [.z (.b (true)),.z (.b (true))] [2,3,4] [(2,V.tp (cL a)),(3,V.tp (cL b))] (qs ?_);obtain⟨x1,hx1,h⟩:=bd h;refine aT hC [oV (aBr G hx1)] (fr 5 6) [(10,vB (!x1))] (aY h (fun c1 h=>?_) fun c1 h=>?_)
 ·cases h;exact aG hC [4] [(4,vB false)] zr
 refine qk (qs ?_);obtain⟨x2,hx2,h⟩:=bd h;refine aT hC [oV (aCN G hx2)] (fr 11 6) [(16,vB (!x2))] (aY h (fun c2 h=>?_) fun c2 h=>?_)
 ·cases h;exact aG hC [4] [(4,vB false)] zr
 cases h;exact qk (aG hC [4] [(4,vB true)] zr)
theorem eN{k}{r}(h:b9 n k=some r):PQ G 86 [vI k] (vS r):=by
 refine pq aN Tryz.func86 rfl fun w X hC=>bC hC [2] (qs (aG hC [4,5] [(5,vD (k≤0))] (aY h (fun c1 h=>?_) fun c1 h=>?_)))
 ·obtain rfl:=so h;exact aG hC [2] [(2,vS [109,48])] zr
 refine qk (aG hC [3] [(3,vS [])] (cU (iB h (fun x_=>dZ [(0,vI x_.1),(3,vS x_.2)]) lS ?_)));rintro again3 ⟨x1,x2⟩ h;refine qs (aG hC [6,7] [(7,vD ((0:Int)<x1))] (aY h (fun c2 h=>?_) fun c2 h=>?_))
 ·refine qk (qb ?_);obtain⟨x4,hx4,h⟩:=bd h;exact aT hC [.z (.y (UInt8.ofInt (wr (48+(Int.tmod x1 10))))),.z (.int 0),.z (.str [UInt8.ofInt (wr (48+(Int.tmod x1 10)))]),oQ (show(10:Int)≠0 by decide),oQ (Eq.refl (UInt8.ofInt (wr (48+(Int.tmod x1 10))))),oQ (Eq.refl (List.map mX [UInt8.ofInt (wr (48+(Int.tmod x1 10)))])),oS hx4] [3,8,9,10,11,12,13,14,15] [(3,vS x4)] (bS hC [oQ (show(10:Int)≠0 by decide)] [0,16,17] [(0,vI (wr (Int.tdiv x1 10)))] (lE h))
 refine cM ?_;obtain⟨x5,hx5,h⟩:=bd h;obtain rfl:=so h;exact aT hC [oS hx5] [2,18,19] [(2,vS x5)] zr
theorem mT{a}{k}{r}(h:d5 n a k=some r):PQ G 90 [vM rI a,vI k] (vI r):=by
 refine pq aN Tryz.func90 rfl fun w X hC=>bC hC [4] (qs (aG hC [5] [(5,vI 0)] (qb (iB h (fun x_=>dZ [(0,vM rI a),(1,vI x_.1),(5,vI x_.2)]) lS ?_))));rintro again3 ⟨x1,x2⟩ h;refine qs (aT hC [oN rI a] (fr 6 4) [(9,vK x2 a)] (aY h (fun c1 h=>?_) fun c1 h=>?_))
 ·refine qk (cU (qs ?_));obtain⟨x4,hx4,h⟩:=bd h;refine aT hC [oR rI hx4] (fr 12 6) [(17,vB (!decide (x4=x1)))] (aY h (fun c2 h=>?_) fun c2 h=>qk (aZ hC [1,18,19] [(1,vI (wr (x1+1)))] (aZ hC [5,10,11] [(5,vI (wr (x2+1)))] (lE h))));obtain rfl:=so h;exact aG hC [4] [(4,vI (-1))] zr
 obtain rfl:=so h;exact cM (aG hC [4,20] [(4,vI x1)] zr)
theorem P0{a}{k}{r}(h:iA n a k=some r):PQ G 49 [vM aJ a,vI k] (vI r):=by
 refine pq aN Tryz.func49 rfl fun w X hC=>bC hC [4] (qs (aG hC [5] [(5,vI 0)] (qb (iB h (fun x_=>dZ [(0,vM aJ a),(1,vI x_.1),(5,vI x_.2)]) lS ?_))));rintro again3 ⟨x1,x2⟩ h;refine qs (aT hC [oN aJ a] (fr 6 4) [(9,vK x2 a)] (aY h (fun c1 h=>?_) fun c1 h=>?_))
 ·refine qk (cU (qs (qs ?_)));obtain⟨x4,hx4,x5,hx5,h⟩:=dL h;refine pS hC bJ [oR aJ hx4,oV (eN G hx5)] (fr 12 8) [(19,vB (!decide (x4.name=x5)))] (aY h (fun c2 h=>?_) fun c2 h=>?_)
  ·obtain rfl:=so h;exact aG hC [4] [(4,vI (-1))] zr
  refine qk (aG hC [1,20,21] [(1,vI (wr (x1+1)))] ?_);obtain⟨x6,hx6,h⟩:=bd h;refine aT hC [oR aJ hx4,oV (mT G hx6)] [1,22,23,24,25,26,27,28] [(1,vI x6)] (aG hC [29,30] [(30,vD (x6<0))] (aY h (fun c3 h=>?_) fun c3 h=>qk (aZ hC [5,10,11] [(5,vI (wr (x2+1)))] (lE h))));obtain rfl:=so h;exact aG hC [4] [(4,vI (-1))] zr
 obtain rfl:=so h;exact cM (aG hC [4,31] [(4,vI x1)] zr)
theorem f0{a}{k}{r}(h:bN n a k=some r):PQ G 130 [vM aA a,vI k] (vI r):=by
 refine pq aN Tryz.func130 rfl fun w X hC=>bC hC [4] (qs (aG hC [5] [(5,vI 0)] (qb (iB h (fun x_=>dZ [(0,vM aA a),(1,vI x_.1),(5,vI x_.2)]) lS ?_))));rintro again3 ⟨x1,x2⟩ h;refine qs (aT hC [oN aA a] (fr 6 4) [(9,vK x2 a)] (aY h (fun c1 h=>?_) fun c1 h=>?_))
 ·refine qk (cU ?_);obtain⟨x4,hx4,x5,hx5,h⟩:=dL h;refine aT hC [oR aA hx4,oV (mT G hx5)] [1,12,13,14,15,16,17,18] [(1,vI x5)] (qs (aG hC [19,20] [(20,vD (x5<0))] (aY h (fun c2 h=>?_) fun c2 h=>?_)))
  ·obtain rfl:=so h;exact aG hC [4] [(4,vI (-1))] zr
  refine qk (qs (aT hC [oR aA hx4] (fr 21 7) [(27,vB (!decide (x4.const=x5)))] (aY h (fun c3 h=>?_) fun c3 h=>qk (aZ hC [1,28,29] [(1,vI (wr (x5+1)))] (aZ hC [5,10,11] [(5,vI (wr (x2+1)))] (lE h))))));obtain rfl:=so h;exact aG hC [4] [(4,vI (-1))] zr
 obtain rfl:=so h;exact cM (aG hC [4,30] [(4,vI x1)] zr)
theorem U8{a}{k}{r}(h:gN n a k=some r):PQ G 91 [vM aD a,vI k] (vI r):=by
 refine pq aN Tryz.func91 rfl fun w X hC=>bC hC [4] (qs (aG hC [5] [(5,vI 0)] (qb (iB h (fun x_=>dZ [(0,vM aD a),(1,vI x_.1),(5,vI x_.2)]) lS ?_))));rintro again3 ⟨x1,x2⟩ h;refine qs (aT hC [oN aD a] (fr 6 4) [(9,vK x2 a)] (aY h (fun c1 h=>?_) fun c1 h=>?_))
 ·refine qk (cU ?_);obtain⟨x4,hx4,x5,hx5,h⟩:=dL h;refine aT hC [oR aD hx4,oV (f0 G hx5)] [1,12,13,14,15,16,17,18] [(1,vI x5)] (qs (aG hC [19,20] [(20,vD (x5<0))] (aY h (fun c2 h=>?_) fun c2 h=>?_)))
  ·obtain rfl:=so h;exact aG hC [4] [(4,vI (-1))] zr
  refine qk ?_;obtain⟨x6,hx6,h⟩:=bd h;refine aT hC [oR aD hx4,oV (f0 G hx6)] [1,21,22,23,24,25,26,27] [(1,vI x6)] (aG hC [28,29] [(29,vD (x6<0))] (aY h (fun c3 h=>?_) fun c3 h=>qk (aZ hC [5,10,11] [(5,vI (wr (x2+1)))] (lE h))));obtain rfl:=so h;exact aG hC [4] [(4,vI (-1))] zr
 obtain rfl:=so h;exact cM (aG hC [4,30] [(4,vI x1)] zr)
theorem U9(G:GS): ∀(n:Nat) (a:List Expr) (k:Int) {r:Int} (h:w_heldExprS n a k=some r),PQ G 131 [vM aC a,vI k] (vI r):=by
 intro n;induction n with
 |zero=>intro a k r h;rw [w_heldExprS.eq_def] at h;cases h
 |succ n ih=>
  intro a k r h;rw [w_heldExprS.eq_def] at h;dsimp only at h;refine pq aN Tryz.func131 rfl fun w X hC=>bC hC [4] (qs (aG hC [5] [(5,vI 0)] (qb (iB h (fun x_=>dZ [(0,vM aC a),(1,vI x_.1),(5,vI x_.2)]) lS ?_))));rintro again3 ⟨x1,x2⟩ h;refine qs (aT hC [oN aC a] (fr 6 4) [(9,vK x2 a)] (aY h (fun c1 h=>?_) fun c1 h=>?_))
  ·refine qk (cU (qs ?_));obtain⟨x4,hx4,h⟩:=bd h;refine aT hC [.z (.row (bF x4)),oQ (cH aC hx4 (aO x4))] (fr 12 7) [(18,vB (!decide (x4.kind=x1)))] (aY h (fun c2 h=>?_) fun c2 h=>?_)
   ·obtain rfl:=so h;exact aG hC [4] [(4,vI (-1))] zr
   refine qk (aG hC [1,19,20] [(1,vI (wr (x1+1)))] (qs (aT hC [.z (.row (bF x4)),oQ (cH aC hx4 (aO x4))] (fr 21 7) [(27,vB (!decide (x4.num=wr (x1+1))))] (aY h (fun c3 h=>?_) fun c3 h=>?_))))
   ·obtain rfl:=so h;exact aG hC [4] [(4,vI (-1))] zr
   refine qk (aG hC [1,28,29] [(1,vI (wr ((wr (x1+1))+1)))] ?_);obtain⟨x5,hx5,h⟩:=bd h;refine aT hC [.z (.row (bF x4)),oQ (cH aC hx4 (aO x4)),oV (mT G hx5)] [1,30,31,32,33,34,35,36,37] [(1,vI x5)] (qs (aG hC [38,39] [(39,vD (x5<0))] (aY h (fun c4 h=>?_) fun c4 h=>?_)))
   ·obtain rfl:=so h;exact aG hC [4] [(4,vI (-1))] zr
   refine qk (qs (aT hC [.z (.row (bF x4)),oQ (cH aC hx4 (aO x4))] (fr 40 8) [(47,vB (!decide (x4.index.const=x5)))] (aY h (fun c5 h=>?_) fun c5 h=>?_)))
   ·obtain rfl:=so h;exact aG hC [4] [(4,vI (-1))] zr
   refine qk (aG hC [1,48,49] [(1,vI (wr (x5+1)))] (qs (qs ?_)));obtain⟨x6,hx6,h⟩:=bd h;refine pS hC bJ [.z (.row (bF x4)),oQ (cH aC hx4 (aO x4)),oV (eN G hx6)] (fr 50 9) [(58,vB (!decide (x4.read.array=x6)))] (aY h (fun c6 h=>?_) fun c6 h=>?_)
   ·obtain rfl:=so h;exact aG hC [4] [(4,vI (-1))] zr
   refine qk (aG hC [1,59,60] [(1,vI (wr ((wr (x5+1))+1)))] ?_);obtain⟨x7,hx7,h⟩:=bd h;refine aT hC [.z (.row (bF x4)),oQ (cH aC hx4 (aO x4)),oV (f0 G hx7)] [1,61,62,63,64,65,66,67,68] [(1,vI x7)] (qs (aG hC [69,70] [(70,vD (x7<0))] (aY h (fun c7 h=>?_) fun c7 h=>?_)))
   ·obtain rfl:=so h;exact aG hC [4] [(4,vI (-1))] zr
   refine qk ?_;obtain⟨x8,hx8,h⟩:=bd h;refine aT hC [.z (.row (bF x4)),oQ (cH aC hx4 (aO x4)),oV (ih x4.kids x7 hx8)] [1,71,72,73,74,75,76,77] [(1,vI x8)] (aG hC [78,79] [(79,vD (x8<0))] (aY h (fun c8 h=>?_) fun c8 h=>qk (aZ hC [5,10,11] [(5,vI (wr (x2+1)))] (lE h))));obtain rfl:=so h;exact aG hC [4] [(4,vI (-1))] zr
  obtain rfl:=so h;exact cM (aG hC [4,80] [(4,vI x1)] zr)
theorem U6{a}{k}{r}(h:gM n a k=some r):PQ G 92 [vM aF a,vI k] (vI r):=by
 refine pq aN Tryz.func92 rfl fun w X hC=>bC hC [4] (qs (aG hC [5] [(5,vI 0)] (qb (iB h (fun x_=>dZ [(0,vM aF a),(1,vI x_.1),(5,vI x_.2)]) lS ?_))));rintro again3 ⟨x1,x2⟩ h;refine qs (aT hC [oN aF a] (fr 6 4) [(9,vK x2 a)] (aY h (fun c1 h=>?_) fun c1 h=>?_))
 ·refine qk (cU (qs (qs ?_)));obtain⟨x4,hx4,x5,hx5,h⟩:=dL h;refine pS hC bJ [oR aF hx4,oV (eN G hx5)] (fr 12 9) [(20,vB (!decide (x4.write.array=x5)))] (aY h (fun c2 h=>?_) fun c2 h=>?_)
  ·obtain rfl:=so h;exact aG hC [4] [(4,vI (-1))] zr
  refine qk (aG hC [1,21,22] [(1,vI (wr (x1+1)))] ?_);obtain⟨x6,hx6,h⟩:=bd h;refine aT hC [oR aF hx4,oV (f0 G hx6)] [1,23,24,25,26,27,28,29,30] [(1,vI x6)] (qs (aG hC [31,32] [(32,vD (x6<0))] (aY h (fun c3 h=>?_) fun c3 h=>?_)))
  ·obtain rfl:=so h;exact aG hC [4] [(4,vI (-1))] zr
  refine qk (qs (aT hC [oR aF hx4] (fr 33 8) [(40,vB (!decide (x4.value.kind=x6)))] (aY h (fun c4 h=>?_) fun c4 h=>?_)))
  ·obtain rfl:=so h;exact aG hC [4] [(4,vI (-1))] zr
  refine qk (aG hC [1,41,42] [(1,vI (wr (x6+1)))] (qs (aT hC [oR aF hx4] (fr 43 8) [(50,vB (!decide (x4.value.num=wr (x6+1))))] (aY h (fun c5 h=>?_) fun c5 h=>?_))))
  ·obtain rfl:=so h;exact aG hC [4] [(4,vI (-1))] zr
  refine qk (aG hC [1,51,52] [(1,vI (wr ((wr (x6+1))+1)))] ?_);obtain⟨x7,hx7,h⟩:=bd h;refine aT hC [oR aF hx4,oV (mT G hx7)] [1,53,54,55,56,57,58,59,60,61] [(1,vI x7)] (qs (aG hC [62,63] [(63,vD (x7<0))] (aY h (fun c6 h=>?_) fun c6 h=>?_)))
  ·obtain rfl:=so h;exact aG hC [4] [(4,vI (-1))] zr
  refine qk (qs (aT hC [oR aF hx4] (fr 64 9) [(72,vB (!decide (x4.value.index.const=x7)))] (aY h (fun c7 h=>?_) fun c7 h=>?_)))
  ·obtain rfl:=so h;exact aG hC [4] [(4,vI (-1))] zr
  refine qk (aG hC [1,73,74] [(1,vI (wr (x7+1)))] (qs (qs ?_)));obtain⟨x8,hx8,h⟩:=bd h;refine pS hC bJ [oR aF hx4,oV (eN G hx8)] (fr 75 10) [(84,vB (!decide (x4.value.read.array=x8)))] (aY h (fun c8 h=>?_) fun c8 h=>?_)
  ·obtain rfl:=so h;exact aG hC [4] [(4,vI (-1))] zr
  refine qk (aG hC [1,85,86] [(1,vI (wr ((wr (x7+1))+1)))] ?_);obtain⟨x9,hx9,h⟩:=bd h;refine aT hC [oR aF hx4,oV (f0 G hx9)] [1,87,88,89,90,91,92,93,94,95] [(1,vI x9)] (qs (aG hC [96,97] [(97,vD (x9<0))] (aY h (fun c9 h=>?_) fun c9 h=>?_)))
  ·obtain rfl:=so h;exact aG hC [4] [(4,vI (-1))] zr
  refine qk ?_;obtain⟨x10,hx10,h⟩:=bd h;refine aT hC [oR aF hx4,oV (U9 G n x4.value.kids x9 hx10)] [1,98,99,100,101,102,103,104,105] [(1,vI x10)] (aG hC [106,107] [(107,vD (x10<0))] (aY h (fun c10 h=>?_) fun c10 h=>qk (aZ hC [5,10,11] [(5,vI (wr (x2+1)))] (lE h))));obtain rfl:=so h;exact aG hC [4] [(4,vI (-1))] zr
 obtain rfl:=so h;exact cM (aG hC [4,108] [(4,vI x1)] zr)
theorem U7{a}{k}{r}(h:jC n a k=some r):PQ G 50 [vM aE a,vI k] (vI r):=by
 refine pq aN Tryz.func50 rfl fun w X hC=>bC hC [4] (qs (aG hC [5] [(5,vI 0)] (qb (iB h (fun x_=>dZ [(0,vM aE a),(1,vI x_.1),(5,vI x_.2)]) lS ?_))));rintro again3 ⟨x1,x2⟩ h;refine qs (aT hC [oN aE a] (fr 6 4) [(9,vK x2 a)] (aY h (fun c1 h=>?_) fun c1 h=>?_))
 ·refine qk (cU ?_);obtain⟨x4,hx4,x5,hx5,h⟩:=dL h;refine aT hC [oR aE hx4,oV (U8 G hx5)] [1,12,13,14,15,16,17,18] [(1,vI x5)] (qs (aG hC [19,20] [(20,vD (x5<0))] (aY h (fun c2 h=>?_) fun c2 h=>?_)))
  ·obtain rfl:=so h;exact aG hC [4] [(4,vI (-1))] zr
  refine qk ?_;obtain⟨x6,hx6,h⟩:=bd h;refine aT hC [oR aE hx4,oV (U6 G hx6)] [1,21,22,23,24,25,26,27] [(1,vI x6)] (aG hC [28,29] [(29,vD (x6<0))] (aY h (fun c3 h=>?_) fun c3 h=>qk (aZ hC [5,10,11] [(5,vI (wr (x2+1)))] (lE h))));obtain rfl:=so h;exact aG hC [4] [(4,vI (-1))] zr
 obtain rfl:=so h;exact cM (aG hC [4,30] [(4,vI x1)] zr)
theorem rN{a}{k}{r}(h:eS n a k=some r):PQ G 14 [V.agg (cR a),vI k] (vI r):=by
 refine pq aN Tryz.func14 rfl fun w X hC=>aT hC [.z (.b (true))] [2,4] [(2,V.tp (cL a))] ?_;obtain⟨x1,hx1,h⟩:=bd h;refine aT hC [oV (P0 G hx1)] [1,5,6,7,8] [(1,vI x1)] (qs (aG hC [9,10] [(10,vD (x1<0))] (aY h (fun c1 h=>?_) fun c1 h=>?_)))
 ·obtain rfl:=so h;exact aG hC [4] [(4,vI (-1))] zr
 refine qk ?_;obtain⟨x2,hx2,h⟩:=bd h;refine aT hC [oV (U7 G hx2)] [1,11,12,13,14] [(1,vI x2)] (qs (aG hC [15,16] [(16,vD (x2<0))] (aY h (fun c2 h=>?_) fun c2 h=>?_)))
 ·obtain rfl:=so h;exact aG hC [4] [(4,vI (-1))] zr
 obtain rfl:=so h;exact qk (aG hC [4,17] [(4,vI x2)] zr)
theorem l3{n_a0}{r}(h:kQ n n_a0=some r):VQ G 51 [] [vI n_a0] (V.agg [ms 0 1 1 rI r.coefs,vI r.const]) [ar 3 1 1 rI r.coefs]:=by refine vq aN Tryz.func51 rfl fun w X β0 hC hg=>rq hC [.z (.nat 20)] [2] [(2,V.ref 20 0)] [(20,sc [aU,vI 0])] [(20,true)] ?_;obtain⟨x1,hx1,h⟩:=bd h;cases h;exact rq hC [oC [] [21] (wH G n hx1),.z (.nat 22)] [3,4] [(3,V.ref 22 0)] [(21,some (ar 3 1 1 rI x1.coefs)),(22,sc [ms 21 1 1 rI x1.coefs,vI x1.const])] [(21,true),(22,true)] (iE hC [5,6] [(22,sc [ms 21 1 1 rI x1.coefs,vI n_a0])] [] (iE hC [7] [(20,sc [ms 21 1 1 rI x1.coefs,vI n_a0])] [] (qw (lk hC [.rn 21 0 [] [20,22]] [] [] [(20,sc [ms 0 1 1 rI x1.coefs,vI n_a0]),(22,sc [ms 0 1 1 rI x1.coefs,vI n_a0]),(21,none),(0,some (ar 3 1 1 rI x1.coefs))] [(0,true)]) zw)))
theorem aEH{loop}{r}(h:xC n loop=some r):PQ G 93 [V.agg (jZ loop)] (vB r):=by
 refine pq aN Tryz.func93 rfl fun w X hC=>aT hC [.z (.b (true))] [1,2] [(1,V.tp (jE loop))] (qs (aG hC [3] [(3,vI 0)] (qb (iB h (fun x_=>dZ [(1,V.tp (jE loop)),(3,vI x_)]) lS ?_))));rintro again2 x1 h;refine qs (aT hC [oN aA loop.lo] (fr 5 5) [(9,vK x1 loop.lo)] (aY h (fun c1 h=>?_) fun c1 h=>?_))
 ·refine qk (cU ?_);obtain⟨x3,hx3,x4,hx4,h⟩:=dL h;refine aT hC [oR aA hx3,oV (lZ G hx4)] (fr 12 7) [(18,vD ((0:Int)<x4))] (aY h (fun c2 h=>?_) fun c2 h=>qk (aZ hC [3,10,11] [(3,vI (wr (x1+1)))] (lE h)));cases h;exact aG hC [2] [(2,vB false)] zr
 refine cM (qs (aG hC [4] [(4,vI 0)] (qb (iB h (fun x_=>dZ [(1,V.tp (jE loop)),(4,vI x_)]) lS ?_))));rintro again6 x5 h;refine qs (aT hC [oN aA loop.hi] (fr 19 5) [(23,vK x5 loop.hi)] (aY h (fun c3 h=>?_) fun c3 h=>?_))
 ·refine qk (cU ?_);obtain⟨x7,hx7,x8,hx8,h⟩:=dL h;refine aT hC [oR aA hx7,oV (lZ G hx8)] (fr 26 7) [(32,vD ((0:Int)<x8))] (aY h (fun c4 h=>?_) fun c4 h=>qk (aZ hC [4,24,25] [(4,vI (wr (x5+1)))] (lE h)));cases h;exact aG hC [2] [(2,vB false)] zr
 cases h;exact cM (aG hC [2] [(2,vB true)] zr)
theorem aCS{x}{r}(h:t8 n x=some r):PQ G 55 [V.agg (jZ x)] (V.tup [vI r.1,vI r.2.1,vB r.2.2]):=by
 refine pq aN Tryz.func55 rfl fun w X hC=>aT hC [.z (.b (true))] (fr 1 4) [(1,V.tp (jE x))] (qs (vj h (fun x_=>dZ [(1,V.tp (jE x)),(19,vB x_)]) (fun j1 h=>?_) fun x3 h=>?_))
 ·refine bE h (fun c1 h=>?_) fun c1 h=>bS hC ([oN aA x.lo]++rT 5 c1++sT 4) (fr 5 15) [(19,vB true)] (lE h);refine bE h (fun c2 h=>?_) fun c2 h=>bS hC ([oN aA x.lo]++rF 3 c1++[oN aA x.hi,oF c1,oF c1]++rT 4 c2) (fr 5 15) [(19,vB true)] (lE h);obtain⟨x2,hx2,h⟩:=bd h;exact bS hC ([oN aA x.lo]++rF 3 c1++[oN aA x.hi,oF c1,oF c1,oF c2,oF c2,oV (aEH G hx2),oF c2,oF c2]) (fr 5 15) [(19,vB (!x2))] (lE h)
 refine aY h (fun c3 h=>?_) fun c3 h=>?_
 ·cases h;exact aG hC [2,3,4] [(2,vI 0),(3,vI 0),(4,vB false)] zr
 refine qk (qs ?_);obtain⟨x4,hx4,x5,hx5,h⟩:=dL h;cases h;exact pS hC bJ [oR aA hx4,oR aA hx5] [2,3,4,20,21,22,23,24,25,26,27,28,29] [(2,vI x4.const),(3,vI x5.const),(4,vB true)] zr
theorem V6{p}{part}{loop}{size}{r}(h:jH n p part loop size=some r):PQ G 17 [V.agg (cR p),vI part,vI loop,vI size] (V.tup [V.agg (cR r.1),vB r.2]):=by
 refine pq aN Tryz.func17 rfl fun w X hC=>rq hC [.z (.nat 20),.z (.nat 21)] [4,8,9] [(4,V.ref 20 0),(8,V.ref 21 0)] [(20,some (E.cells (cR p))),(21,sc [aU,aU])] [(20,true),(21,true)] ?_;obtain⟨x1,hx1,h⟩:=bd h;refine iL hC [oV (yF G hx1)] [18,19] [(20,some (E.cells (cR x1)))] [] (qs (vj h (fun x_=>dG [(1,vI part),(2,vI loop),(3,vI size),(4,V.ref 20 0),(8,V.ref 21 0),(42,vB x_)] [(20,E.cells (cR x1)),(21,E.cells [aU,aU])] [20,21]) (fun j2 h=>?_) fun x5 h=>?_))
 ·obtain⟨x3,hx3,h⟩:=bd h;refine bE h (fun c1 h=>?_) fun c1 h=>bS hC ([oV (uQ G hx3)]++rT 9 c1++sT 6) (fr 20 23) [(42,vB true)] (lE h);obtain⟨x4,hx4,h⟩:=bd h;refine bE h (fun c2 h=>?_) fun c2 h=>bS hC ([oV (uQ G hx3)]++rF 4 c1++[oR aE hx4]++rF 3 c1++[oN aD x4.nest,oF c1,oF c1]++rT 3 c2++[eT,eT,eT]) (fr 20 23) [(42,vB true)] (lE h);exact bE h (fun c3 h=>bS hC ([oV (uQ G hx3)]++rF 4 c1++[oR aE hx4]++rF 3 c1++[oN aD x4.nest,oF c1,oF c1]++rF 3 c2++rF 3 c3) (fr 20 23) [(42,vD ((6:Int)<size))] (lE h)) fun c3 h=>bS hC ([oV (uQ G hx3)]++rF 4 c1++[oR aE hx4]++rF 3 c1++[oN aD x4.nest,oF c1,oF c1]++rF 3 c2++rT 3 c3) (fr 20 23) [(42,vB true)] (lE h)
 refine aY h (fun c4 h=>?_) fun c4 h=>?_
 ·cases h;exact rqa hC [9,43] [(9,vB false)] [(21,sc [aU,aU])] [] zr
 refine qk ?_;obtain⟨x6,hx6,x7,hx7,x8,hx8,h⟩:=rR h;refine aT hC [oR aE hx6,oR aD hx7,oV (aCS G hx8)] [10,11,12,44,45,46,47,48,49,50,51,52,53,54,55,56,57] [(10,vI x8.1),(11,vI x8.2.1),(12,vB x8.2.2)] (qs (aG hC [58,59] [(59,vB (!x8.2.2))] (aY h (fun c5 h=>?_) fun c5 h=>?_)))
 ·cases h;exact rqa hC [9,60] [(9,vB false)] [(21,sc [aU,aU])] [] zr
 refine qk (aG hC [13] [(13,vI 0)] (vj h (fun x_=>dG [(1,vI part),(2,vI loop),(3,vI size),(4,V.ref 20 0),(8,V.ref 21 0),(10,vI x8.1),(11,vI x8.2.1),(13,vI x_)] [(20,E.cells (cR x1)),(21,E.cells [aU,aU])] [20,21]) (fun j9 h=>?_) fun x11 h=>?_))
 ·refine aG hC [61,62,63] [(63,vD (x8.1<x8.2.1))] (aY h (fun c6 h=>?_) fun c6 h=>qk (lE h));obtain⟨x10,hx10,h⟩:=bd h;exact bS hC [oQ (aHC hx10)] [13,64,65,66,67,68,69,70,71] [(13,vI (wr (Int.tdiv (wr ((wr ((wr (x8.2.1-x8.1))+size))-1)) size)))] (lE h)
 obtain⟨x12,hx12,h⟩:=bd h;refine rq hC [oR aE hx6,oC [] [22,23] (aCR G hx12),.z (.nat 24)] [14,72,73,74,75,76,77,78,79,80] [(14,V.ref 24 0)] [(22,some (ar 64 1 2 aD x12.nest)),(23,some (ar 110 1 9 aF x12.body)),(24,sc [ms 22 1 2 aD x12.nest,ms 23 1 9 aF x12.body])] [(22,true),(23,true),(24,true)] ?_;obtain⟨x13,hx13,x14,hx14,x15,hx15,h⟩:=rR h;refine rq hC [oC [] [25] (aGp G hx13),oC [] [26] (l3 G hx14),.z (.at 3),.z (.fz 25 [82] []),.z (.at 3),.z (.fz 26 [85] []),oC [] [27] (o1 G hx15),.z (.nat 28)] [15,81,82,83,84,85,86] [(15,V.ref 28 0)] [(25,none),(26,none),(27,some (ar 3 1 1 rI x15.coefs)),(28,sc [ms 27 1 1 rI x15.coefs,vI x15.const])] [(25,true),(26,true),(27,true),(28,true)] (qs ?_);obtain⟨x16,hx16,x17,hx17,x18,hx18,h⟩:=rR h;obtain⟨x19,hx19,h⟩:=bd h;refine dk hC bJ [.z (.at 14),.z (.fz 27 [] [28]),oC [] [29] (l3 G hx16),.z (.at 11),.z (.fz 29 [88] []),.z (.int 0),oC [] [30] (l3 G hx17),oC [] [31] (l3 G hx18),.z (.at 5),.z (.fz 31 [95] []),oC [] [32] (o1 G hx19),.z (.at 4),.z (.fz 30 [92] []),.z (.at 4),.z (.fz 32 [96] []),.z (.int 0),.z (.at 2),.z (.fz 23 [] [24]),.z (.nat 33)] [16,87,88,89,90,91,92,93,94,95,96,97,98] [(16,V.ref 33 0)] [(27,none),(28,some (E.cells (aQ x15))),(29,none),(30,none),(31,none),(32,none),(23,none),(24,sc [ms 22 1 2 aD x12.nest,vM aF x12.body]),(33,sc [vM aA [x16,x15],vM aA [x17,x19]])] [(29,true),(30,true),(31,true),(32,true),(33,true)] ?_;obtain⟨x20,hx20,x21,hx21,h⟩:=dL h;refine rq hC [.z (.nat 34),.z (.at 3),.z (.fz 22 [101] [24]),oA (F9 aD hx20),oM 2 bW x12.nest,oA (aX aD hx21),oM 2 bW [],oM 2 bW x20] [17,99,100,101,102,103,104] [(17,ms 34 2 2 aD x21)] [(34,some (ar 64 2 2 aD x21)),(24,some (E.cells (nS x12))),(22,none)] [(34,true)] (qs ?_);obtain⟨x22,hx22,x23,hx23,x24,hx24,h⟩:=rR h;refine dk hC bJ [oC [] [35] (wH G n hx22),.z (.at 9),.z (.fz 35 [106] []),.z (.int 0),oC [] [36] (l3 G hx23),.z (.at 6),.z (.fz 36 [109] []),.z (.int 0),.z (.int 0),oA (aX aD hx24),oM 2 bW x21,oM 2 bW [(⟨[x22],[x23]⟩:Loop),(⟨[x16,x15],[x17,x19]⟩:Loop)]] [17,105,106,107,108,109,110,111,112,113,114] [(17,ms 34 3 2 aD x24)] [(35,none),(36,none),(34,some (ar 64 3 2 aD x24))] [(35,true),(36,true)] ?_;obtain⟨x25,hx25,x26,hx26,h⟩:=dL h;refine iL hC [oA (I9 aD hx25),oM 2 bW x12.nest,oA (aX aD hx26),oM 2 bW x24,oM 2 bW x25] [17,115,116,117,118,119,120,121,122] [(34,some (ar 64 4 2 aD x26)),(24,sc [ms 34 4 2 aD x26,vM aF x12.body])] [] ?_;obtain⟨x27,hx27,h⟩:=bd h;cases h;exact rq hC [.z (.at 7),.z (.fz 34 [] [24]),.z (.int 0),oV (aEy G hx27)] [9,123,124,125,126,127,128,129] [(9,vB x27.2)] [(24,sc [vM aD x26,vM aF x12.body]),(34,none),(21,some (E.cells (cR x27.1)))] [] zr
theorem W6(G:GS)(n:Nat)(a:Affine){r:Bool}(h:oD n a=some r):PQ G 136 [V.agg (aQ a)] (vB r):=by refine pq aN Tryz.func136 rfl fun w X hC=>aT hC [.z (.b (true))] [1,2] [(1,V.tp (bA a))] ?_;obtain⟨x1,hx1,h⟩:=bd h;cases h;exact aT hC [oV (fJ G hx1)] (fr 2 4) [(2,vD ((0:Int)<x1))] zr
theorem tL{list}{r}(h:pL n list=some r):PQ G 96 [vM aA list] (vB r):=by refine pq aN Tryz.func96 rfl fun w X hC=>bC hC [2] ?_;obtain⟨x1,hx1,h⟩:=bd h;cases h;exact aT hC [oV (pY G n list 136 (fun q0=>oD n q0) (fun q0 r h=>W6 G n q0 h) hx1)] (fr 2 4) [(2,vB (!x1))] zr
theorem R0{l}{r}(h:mS n l=some r):PQ G 58 [V.agg (jZ l)] (V.tup [vI r.1,vI r.2.1,vB r.2.2]):=by
 refine pq aN Tryz.func58 rfl fun w X hC=>aT hC [.z (.b (true))] (fr 1 4) [(1,V.tp (jE l))] (qs (vj h (fun x_=>dZ [(1,V.tp (jE l)),(26,vB x_)]) (fun j1 h=>?_) fun x4 h=>?_))
 ·refine bE h (fun c1 h=>?_) fun c1 h=>bS hC ([oN aA l.lo]++rT 5 c1++sT 10) (fr 5 22) [(26,vB true)] (lE h);refine bE h (fun c2 h=>?_) fun c2 h=>bS hC ([oN aA l.lo]++rF 3 c1++[oN aA l.hi,oF c1,oF c1]++rT 5 c2++sT 5) (fr 5 22) [(26,vB true)] (lE h);obtain⟨x2,hx2,h⟩:=bd h;refine bE h (fun c3 h=>?_) fun c3 h=>bS hC ([oN aA l.lo]++rF 3 c1++[oN aA l.hi,oF c1,oF c1]++rF 3 c2++[oV (tL G hx2),oF c2,oF c2]++rT 5 c3) (fr 5 22) [(26,vB true)] (lE h);obtain⟨x3,hx3,h⟩:=bd h;exact bS hC ([oN aA l.lo]++rF 3 c1++[oN aA l.hi,oF c1,oF c1]++rF 3 c2++[oV (tL G hx2),oF c2,oF c2]++rF 3 c3++[oV (tL G hx3),oF c3,oF c3]) (fr 5 22) [(26,vB (!x3))] (lE h)
 refine aY h (fun c4 h=>?_) fun c4 h=>?_
 ·cases h;exact aG hC [2,3,4] [(2,vI 0),(3,vI 0),(4,vB false)] zr
 refine qk (qs ?_);obtain⟨x5,hx5,x6,hx6,h⟩:=dL h;cases h;exact pS hC bJ [oR aA hx5,oR aA hx6] [2,3,4,27,28,29,30,31,32,33,34,35,36] [(2,vI x5.const),(3,vI x6.const),(4,vB true)] zr
theorem aKm{α:Type}(f:α→List T){l x:List α}{o m:Nat}(ho:o<l.length)(hm:m=l.length-o):o+m≤(l.map f).length∧(aCC l o x).map f=(l.map f).take o++(x.map f).take (Nat.min (x.map f).length m)++(l.map f).drop (o+Nat.min (x.map f).length m):=by subst hm;refine⟨by rw [I2];omega,?_⟩;unfold aCC;rw [vAP,vAP,List.map_take,List.map_take,List.map_drop,I2]
theorem aCB{α:Type}(f:α→List T){l x:List α}{o:Nat}(ho:o<l.length):(l.map f).length=((aCC l o x).map f).length:=by
 unfold aCC;simp only [List.length_map,List.length_append,List.length_take,List.length_drop]
 have:Nat.min x.length (l.length-o)=min x.length (l.length-o):=rfl;omega
theorem F5(G:GS)(n:Nat)(a:Affine)(loop:Int){r:Affine}(h:gD n a loop=some r):PQ G 59 [V.agg (aQ a),V.tp [T.int .i64 loop]] (V.agg (aQ r)):=by
 refine pq aN Tryz.func59 rfl fun w X hC=>rq hC [.z (.b (true)),.z (.nat 20)] [2,3] [(2,V.tp (bA a)),(3,V.ref 20 0)] [(20,sc [aU,vI 0])] [(20,true)] ?_;obtain⟨x1,hx1,h⟩:=bd h;refine rq hC [oC [] [21] (mE G n a hx1),.z (.nat 22)] [4,5,6] [(4,V.ref 22 0)] [(21,some (ar 3 1 1 rI x1.coefs)),(22,sc [ms 21 1 1 rI x1.coefs,vI x1.const])] [(21,true),(22,true)] (tY (decide ((0:Int)≤wr (loop+1))) (fun c1=>?_) fun c1=>?_)
 ·have h:=bf c1 h;exact nof h
 have h:=bt c1 h;refine tY (decide (wr (loop+1)<(x1.coefs.length:Int))) (fun c2=>?_) fun c2=>?_
 ·have h:=bf c2 h;exact nof h
 have h:=bt c2 h;have g0:=of_decide_eq_true c1;have g1:=of_decide_eq_true c2;obtain⟨x2,hx2,x4,hx4,x3,hx3,h⟩:=rR h;cases h;exact qs (pR hC bJ [.z (.nat (wr (loop+1)).toNat),.z (.nat (x1.coefs.length-(wr (loop+1)).toNat)),oQ (aGT rI x1.coefs g0 g1),oA (I9 rI hx2),.z (.rows (List.map rI (aCC x1.coefs (wr (loop+1)).toNat x2))),.z (.nat (Nat.min (x2.map rI).length (x1.coefs.length-(wr (loop+1)).toNat))),oI a.coefs,oI x2,oQ (aKm rI (l:=x1.coefs) (x:=x2) (o:=(wr (loop+1)).toNat) (m:=x1.coefs.length-(wr (loop+1)).toNat) (by omega) rfl)] (fr 7 10) [(21,some (ar 3 1 1 rI (aCC x1.coefs (wr (loop+1)).toNat x2)))] [] (iL hC [oQ (aNN rI hx4 (aCB rI (l:=x1.coefs) (x:=x2) (o:=(wr (loop+1)).toNat) (by omega))),oX rI hx4,.z (.rows (x3.map rI)),.z (.lenc 22 0 (x3.map rI).length),oQ (str rI hx3),oQ ((aCB rI (l:=x1.coefs) (x:=x2) (o:=(wr (loop+1)).toNat) (by omega)).trans (kG rI hx3))] (fr 17 4) [(21,some (ar 3 1 1 rI x3)),(22,sc [ms 21 1 1 rI x3,vI x1.const])] [] (qw (lk hC [.fz 21 [] [22]] [] [] [(21,none),(22,sc [vM rI x3,vI x1.const])] []) (iE hC [21] [(20,sc [vM rI x3,vI x1.const])] [] zr))))
open Go.RowKit Go.Lib in
set_option maxHeartbeats 4000000 in
set_option maxRecDepth 100000 in
theorem T1(b n c i vb m vc:Nat)(cs vs:List Value)(w:World)(hi:i<n)(hm:0<m)(hroom:n+m≤c)(hc63:c≤9223372036854775807)(hvb:vb≠b)
  (hcl:cs.length=n*2) (hvl:vs.length=m*2)
  (hcs: ∀j v,cs[j]? =some v→w.cell? ⟨b,j,none⟩=some v) (hsp: ∀j,j<(n+m)*2→(w.cell? ⟨b,j,none⟩).isSome=true) (hfz: ∀j,w.frozen? ⟨b,j,none⟩=false)
  (hvs: ∀j v,vs[j]? =some v→w.cell? ⟨vb,j,none⟩=some v) (h1c: ∀v∈cs,v.oneCell'=true) (h1v: ∀v∈vs,v.oneCell'=true)
  (tA tB:TypeId) (kA kB:Nat) (hsa:w.shape? vb=some (tA,kA)) (hsb:w.shape? b=some (tB,kB)) (hkB:kB≠0) (hfa: ∀j,w.frozen? ⟨vb,j,none⟩=false):
  Calls Tryz.prog 61 #[.slice (some ⟨b,0,none⟩) n c,.int .i64 i,.slice (some ⟨vb,0,none⟩) m vc] w fun e w'=>
   e= .returned (.slice (some ⟨b,0,none⟩) (n+m) c)∧w'=(w.drew.setCells b ((i+m)*2) (cs.drop (i*2))).setCells b (i*2) vs:=by
 have hz1: ¬((m:Int)=0):=by omega
 have hz2: ¬((i:Int)=(n:Int)):=by omega
 have hw1:IntKind.i64.wrap ((i:Int)+(m:Int))=(i:Int)+(m:Int):=by rw [IntKind.wrap_i64];omega
 have hb1:(0:Int)≤(i:Int)+(m:Int):=by omega
 have hin:i≤n:=by omega
 have htn:((i:Int)+(m:Int)).toNat=i+m:=by omega
 have hb2: ¬(c=i+m):=by omega
 have hb3:(i:Int)≤(n:Int)+(m:Int):=by omega
 have hb4: ¬(c=i):=by omega
 have hov: ∀lb cb,(callFunc 98 #[.slice (some ⟨vb,0,none⟩) m vc,.slice (some ⟨b,(i+m)*2,none⟩) lb cb]).run Tryz.prog w= .ok (.value (.bool false)) w:=fun lb cb=>by
  rw [run_callFunc_extern Tryz.func98 (by kernel_rfl) (by kernel_rfl) (by kernel_rfl) (e:=Extern.SlicesOverlaps.overlaps #[51,51] #[4]) (by kernel_rfl),
   Lib.run_overlaps_apart w 51 4 64 Tryz.underlying51 2 Tryz.sizeOf64 ⟨vb,0,none⟩ ⟨b,(i+m)*2,none⟩ m vc lb cb hvb tA tB kA kB hsa hsb hkB (hfa 0) (hfa kA)]
  rfl
 have hdl:(cs.drop (i*2)).length=(n-i)*2:=by rw [X4,hcl];omega
 have hsz:(Tryz.prog.info? 64).map (·.size)=some 2:=by kernel_rfl
 have hcp1: ∀ty dc sc,(Builtin.copy_ #[51,51] ty #[.slice (some ⟨b,(i+m)*2,none⟩) (n+m-(i+m)) dc,.slice (some ⟨b,i*2,none⟩) (n+m-i) sc]).run Tryz.prog w.drew= .ok (goInt ((n-i:Nat):Int)) (w.drew.setCells b ((i+m)*2) (cs.drop (i*2))):=fun ty dc sc=>
  uC w.drew 51 51 ty 64 2 b ((i+m)*2) (n+m-(i+m)) dc ⟨b,i*2,none⟩ (n+m-i) sc (n-i) (cs.drop (i*2)) Tryz.underlying51 hsz (by simp only [Nat.min_def];split<;>omega) hdl
   (fun j v hj=>by rw [Addr.add_lit];exact hcs (i*2+j) v (by rwa [D9] at hj))
   (fun j hj=>hsp _ (by omega)) (fun j hj=>hfz _) fun v hv=>h1c v (vAB hv)
 obtain⟨W1,hW1⟩: ∃W1,W1=w.drew.setCells b ((i+m)*2) (cs.drop (i*2)):=⟨_,rfl⟩
 have hsp1: ∀k,k<(n+m)*2→(W1.cell? ⟨b,k,none⟩).isSome=true:=fun k hk=>by
  rw [hW1];exact pG b (cs.drop (i*2)) ((i+m)*2) w.drew (fun j hj=>hsp _ (by rw [hdl] at hj;omega)) k (hsp k hk)
 have hcp2: ∀(W:World),(∀x,W.cell? x=W1.cell? x)→(∀x,W.frozen? x=W1.frozen? x)→ ∀ty dc,(Builtin.copy_ #[51,51] ty #[.slice (some ⟨b,i*2,none⟩) (n+m-i) dc,.slice (some ⟨vb,0,none⟩) m vc]).run Tryz.prog W= .ok (goInt m) (W.setCells b (i*2) vs):=fun W hWc hWf ty dc=>
  uC W 51 51 ty 64 2 b (i*2) (n+m-i) dc ⟨vb,0,none⟩ m vc m vs Tryz.underlying51 hsz (by simp only [Nat.min_def];split<;>omega) hvl
   (fun j v hj=>by
    rw [Addr.add_lit,l4,hWc,hW1,World.cell?_setCells_out b _ _ _ _ fun h _=>absurd h hvb];exact hvs j v hj)
   (fun j hj=>by rw [hWc];exact hsp1 _ (by omega)) (fun j hj=>by rw [hWf,hW1,World.frozen?_setCells];exact hfz _) h1v
 rw [←hW1] at hcp1
 go_enter Tryz.func61,Tryz.ntmps61
 go_wp2_with (simp only [hov])
 go_region_law (refine sC rfl _ _ 51 51 rfl _ _ (by simp [Act.eval,Act.put]) (by simp [Act.eval,Act.put]) (hcp1 _ _ _) ?_)
 go_wp2_with (at_builtin;refine kK _ rfl _ _ 51 51 rfl _ _ rfl rfl (hcp2 _ (fun _=>rfl) (fun _=>rfl) _ _) ?_)
 go_ret
 first|exact⟨rfl,rfl⟩|exact⟨rfl,by rw [hW1]⟩
open Go.RowKit Go.Lib in
set_option maxHeartbeats 4000000 in
set_option maxRecDepth 100000 in
theorem T3(b n c i vb m vc:Nat)(cs vs:List Value)(w:World)(hi:i<n)(hm:0<m)(hnc:n≤c)(hroom:c<n+m)(i0:TypeInfo)(z:Value)(hi0:Tryz.prog.info? 64=some i0)(hz0:i0.zero=some z)(hzs:i0.size=2)(hzc:z.cells.size=2)(hle:n+m≤1000000000)(hbig:(n+m)*i0.bytes≤140737488355328)
  (hcl:cs.length=n*2) (hvl:vs.length=m*2)
  (hcs: ∀j v,cs[j]? =some v→w.cell? ⟨b,j,none⟩=some v)
  (hvs: ∀j v,vs[j]? =some v→w.cell? ⟨vb,j,none⟩=some v) (h1c: ∀v∈cs,v.oneCell'=true) (h1v: ∀v∈vs,v.oneCell'=true):
  Calls Tryz.prog 61 #[.slice (some ⟨b,0,none⟩) n c,.int .i64 i,.slice (some ⟨vb,0,none⟩) m vc] w fun e w'=>
   e= .returned (.slice (some ⟨w.heap.size,0,none⟩) (n+m) (grownCap w (n+m) c 64))∧
   w'=(((w.alloc (.cells ((cs.take (i*2)).toArray++Builtin.zeroCells z.cells (n+m-i)++Builtin.zeroCells z.cells (grownCap w (n+m) c 64-(n+m))) 64)).drew.setCells w.heap.size (i*2) vs).drew).setCells w.heap.size ((i+m)*2) (cs.drop (i*2)):=by
 have hz1: ¬((m:Int)=0):=by omega
 have hz2: ¬((i:Int)=(n:Int)):=by omega
 have hz3:(c:Int)<(n:Int)+(m:Int):=by omega
 have hsz:(Tryz.prog.info? 64).map (·.size)=some 2:=by rw [hi0];simp [hzs]
 have hbw:b<w.heap.size:=block_lt_of_cell (hcs 0 _ (dH (by omega)));have hvw:vb<w.heap.size:=block_lt_of_cell (hvs 0 _ (dH (by omega)));have hkk:(n:Int)+(m:Int)-(i:Int)=((n+m-i:Nat):Int):=by omega
 have hik:i+(n+m-i)=n+m:=by omega
 have hold:(Builtin.firstCells i0.size i (.slice (some ⟨b,0,none⟩) i c)).run Tryz.prog w.drew= .ok (cs.take (i*2)).toArray w.drew:=by
  rw [hzs];exact run_firstCells_some w.drew 2 i ⟨b,0,none⟩ i c (cs.take (i*2)) (by rw [mH];omega) (fun j v hj=>by
   rw [Addr.add_lit,l4];rw [D8] at hj;split at hj
   ·exact hcs j v hj
   cases hj)
 have hrz: ∀ty,(Builtin.append_ #[51,3] ty #[.slice (some ⟨b,0,none⟩) i c,.int .i64 ((n:Int)+(m:Int)-(i:Int))]).run Tryz.prog w=
   .ok (.slice (some ⟨w.heap.size,0,none⟩) (n+m) (grownCap w (n+m) c 64)) (w.drew.alloc (.cells ((cs.take (i*2)).toArray++Builtin.zeroCells z.cells (n+m-i)++Builtin.zeroCells z.cells (grownCap w (n+m) c 64-(n+m))) 64)):=fun ty=>by
  have h:=Lib.run_append_grow_zeros w 51 3 ty 64 i0 z .i64 .i64 Tryz.underlying51 Tryz.underlying3 hi0 hz0 (some ⟨b,0,none⟩) i c (cs.take (i*2)) hold (n+m-i) (by omega) (by omega) (by omega) (by omega) (by
   have:=jL i0.bytes (show n+m-i≤n+m by omega);omega) (by rw [hik];exact growslice_fits hroom hbig)
  rw [hik] at h;rw [hkk];exact h
 obtain⟨G,hG⟩: ∃G,G=grownCap w (n+m) c 64:=⟨_,rfl⟩
 obtain⟨ROW,hROW⟩: ∃ROW:Array Value,ROW=(cs.take (i*2)).toArray++Builtin.zeroCells z.cells (n+m-i)++Builtin.zeroCells z.cells (G-(n+m)):=⟨_,rfl⟩
 rw [←hG] at hrz⊢;rw [←hROW] at hrz⊢;have hRl:(n+m)*2≤ROW.size:=by
  rw [hROW];simp [Builtin.zeroCells,hzc];omega
 obtain⟨W1,hW1⟩: ∃W1,W1=w.drew.alloc (.cells ROW 64):=⟨_,rfl⟩
 rw [←hW1] at hrz;have hN: ∀j,j<(n+m)*2→(W1.cell? ⟨w.heap.size,j,none⟩).isSome=true:=fun j hj=>by
  rw [hW1,World.cell?_alloc_at (w:=w.drew) ROW _ w.heap.size j rfl,vAI (by omega)];rfl
 have hNf: ∀j,W1.frozen? ⟨w.heap.size,j,none⟩=false:=fun j=>by rw [hW1];exact World.frozen?_alloc_at (w:=w.drew) ROW _ w.heap.size j rfl
 have hOb: ∀j v,w.cell? ⟨b,j,none⟩=some v→W1.cell? ⟨b,j,none⟩=some v:=fun j v h=>by rw [hW1,World.cell?_alloc_past (w:=w.drew) _ b j hbw];exact h
 have hOv: ∀j v,w.cell? ⟨vb,j,none⟩=some v→W1.cell? ⟨vb,j,none⟩=some v:=fun j v h=>by rw [hW1,World.cell?_alloc_past (w:=w.drew) _ vb j hvw];exact h
 have hcpA: ∀(W:World),(∀x,W.cell? x=W1.cell? x)→(∀x,W.frozen? x=W1.frozen? x)→ ∀ty dc,(Builtin.copy_ #[51,51] ty #[.slice (some ⟨w.heap.size,i*2,none⟩) (n+m-i) dc,.slice (some ⟨vb,0,none⟩) m vc]).run Tryz.prog W= .ok (goInt m) (W.setCells w.heap.size (i*2) vs):=fun W hWc hWf ty dc=>
  uC W 51 51 ty 64 2 w.heap.size (i*2) (n+m-i) dc ⟨vb,0,none⟩ m vc m vs Tryz.underlying51 hsz (by simp only [Nat.min_def];split<;>omega) hvl
   (fun j v hj=>by rw [Addr.add_lit,l4,hWc];exact hOv _ v (hvs j v hj))
   (fun j hj=>by rw [hWc];exact hN _ (by omega)) (fun j hj=>by rw [hWf];exact hNf _) h1v
 have hGn:n+m≤G:=by rw [hG];exact grownCap_ge w _ _ _
 have hG63:G≤9223372036854775807:=by
  have:=grownCap_le_maxLen w (n+m) c 64 (by unfold maxLen;omega);rw [←hG] at this;unfold maxLen at this;omega
 have hGi: ¬(G=i):=by omega
 have hGim: ¬(G=i+m):=by omega
 have hci: ¬(c=i):=by omega
 have hbN:b≠w.heap.size:=by omega
 have hdl:(cs.drop (i*2)).length=(n-i)*2:=by rw [X4,hcl];omega
 have hcpB: ∀(W:World),(∀x,W.cell? x=(W1.setCells w.heap.size (i*2) vs).cell? x)→(∀x,W.frozen? x=(W1.setCells w.heap.size (i*2) vs).frozen? x)→ ∀ty dc sc,(Builtin.copy_ #[51,51] ty #[.slice (some ⟨w.heap.size,(i+m)*2,none⟩) (n+m-(i+m)) dc,.slice (some ⟨b,i*2,none⟩) (n-i) sc]).run Tryz.prog W= .ok (goInt ((n-i:Nat):Int)) (W.setCells w.heap.size ((i+m)*2) (cs.drop (i*2))):=fun W hWc hWf ty dc sc=>
  uC W 51 51 ty 64 2 w.heap.size ((i+m)*2) (n+m-(i+m)) dc ⟨b,i*2,none⟩ (n-i) sc (n-i) (cs.drop (i*2)) Tryz.underlying51 hsz (by simp only [Nat.min_def];split<;>omega) hdl
   (fun j v hj=>by
    rw [Addr.add_lit,hWc,World.cell?_setCells_out _ _ _ _ _ fun h _=>absurd h hbN];exact hOb _ v (hcs (i*2+j) v (by rwa [D9] at hj)))
   (fun j hj=>by rw [hWc];exact pG w.heap.size vs (i*2) W1 (fun t ht=>hN _ (by rw [hvl] at ht;omega)) _ (hN _ (by rw [hdl] at hj;omega)))
   (fun j hj=>by rw [hWf,World.frozen?_setCells];exact hNf _) fun v hv=>h1c v (vAB hv)
 subst hW1;have hE1: ∀x,((w.alloc (.cells ROW 64)).drew).cell? x=(w.drew.alloc (.cells ROW 64)).cell? x:=fun x=>rfl;have hE2: ∀x,((w.alloc (.cells ROW 64)).drew).frozen? x=(w.drew.alloc (.cells ROW 64)).frozen? x:=fun x=>rfl;have hF1: ∀x,(((w.alloc (.cells ROW 64)).drew.setCells w.heap.size (i*2) vs).drew).cell? x=((w.drew.alloc (.cells ROW 64)).setCells w.heap.size (i*2) vs).cell? x:=fun x=>rfl;have hF2: ∀x,(((w.alloc (.cells ROW 64)).drew.setCells w.heap.size (i*2) vs).drew).frozen? x=((w.drew.alloc (.cells ROW 64)).setCells w.heap.size (i*2) vs).frozen? x:=fun x=>rfl;have hw1:IntKind.i64.wrap ((i:Int)+(m:Int))=(i:Int)+(m:Int):=by rw [IntKind.wrap_i64];omega
 have hb1:(0:Int)≤(i:Int)+(m:Int):=by omega
 have hin:i≤n:=by omega
 have htn:((i:Int)+(m:Int)).toNat=i+m:=by omega
 have hb3:(i:Int)≤(n:Int):=by omega
 clear hkk hik hold hROW hG hRl
 go_enter Tryz.func61,Tryz.ntmps61
 go_wp2_with (first
  |(at_builtin;refine Lib.wpList_append_run _ rfl _ _ _ _ rfl _ _ rfl rfl _ _ (hrz _) ?_)
  |(at_builtin;refine kK _ rfl _ _ 51 51 rfl _ _ rfl rfl (hcpA _ hE1 hE2 _ _) ?_)
  |(at_builtin;refine kK _ rfl _ _ 51 51 rfl _ _ rfl rfl (hcpB _ (fun _=>rfl) (fun _=>rfl) _ _ _) ?_))
 go_region_law (refine sC rfl _ _ 51 51 rfl (.slice (some ⟨w.heap.size,(i+m)*2,none⟩) (n+m-(i+m)) (G-(i+m))) (.slice (some ⟨b,i*2,none⟩) (n-i) (c-i)) (by simp [Act.eval,Act.put]) (by simp [Act.eval,Act.put]) (hcpB _ hF1 hF2 3 (G-(i+m)) (c-i)) ?_)
 go_wp2
 go_ret
 exact⟨rfl,rfl⟩
open Go.RowKit Go.Lib in
set_option maxHeartbeats 4000000 in
set_option maxRecDepth 100000 in
theorem T2(base vbase:Option Addr)(n c i vc:Nat)(w:World)(hi:i≤n)(hn:n≤c)(hc:c≤9223372036854775807):Calls Tryz.prog 61 #[.slice base n c,.int .i64 i,.slice vbase 0 vc] w fun e w'=>e= .returned (.slice base n c)∧w'=w:=by
 have hin:(i:Int)≤(n:Int):=by omega
 go_enter Tryz.func61,Tryz.ntmps61
 cases base with
 |none=>
  go_wp2
  go_ret
  exact⟨rfl,rfl⟩
 |some a=>
  obtain⟨ab,ao,asp⟩:=a;by_cases hci:c=i
  ·go_wp2
   go_ret
   exact⟨rfl,rfl⟩
  go_wp2
  go_ret
  exact⟨rfl,rfl⟩
open Go.RowKit Go.Lib in
set_option maxHeartbeats 4000000 in
set_option maxRecDepth 100000 in
theorem T0(base vbase:Option Addr)(n c m vc:Nat)(w:World)(v':Value)(w':World)(hm:0<m)(hn:n≤c)(hc:c≤9223372036854775807)(hrun:(Builtin.append_ #[51,51] 51 #[.slice base n c,.slice vbase m vc]).run Tryz.prog w= .ok v' w'):
  Calls Tryz.prog 61 #[.slice base n c,.int .i64 n,.slice vbase m vc] w fun e w1=>e= .returned v'∧w1=w':=by
 have hz1: ¬((m:Int)=0):=by omega
 go_enter Tryz.func61,Tryz.ntmps61
 cases base with
 |none=>
  go_wp2_with (at_builtin;refine Lib.wpList_append_run _ rfl _ _ _ _ rfl _ _ rfl rfl _ _ hrun ?_)
  go_ret
  exact⟨rfl,rfl⟩
 |some a=>
  obtain⟨ab,ao,asp⟩:=a;by_cases hci:c=n
  ·go_wp2_with (at_builtin;refine Lib.wpList_append_run _ rfl _ _ _ _ rfl _ _ rfl rfl _ _ hrun ?_)
   go_ret
   exact⟨rfl,rfl⟩
  go_wp2_with (at_builtin;refine Lib.wpList_append_run _ rfl _ _ _ _ rfl _ _ rfl rfl _ _ hrun ?_)
  go_ret
  exact⟨rfl,rfl⟩
theorem aCl{i0:TypeInfo}{z:Value}(hi0:Tryz.prog.info? 64=some i0)(hz0:i0.zero=some z)(hzs:i0.size=2)(hzc:z.cells.size=2):InsRaw Tryz.prog 61 51 64 2 i0 z where
 nothing:=T2
 tail:=T0
 room:=fun b n c i vb m vc cs vs w hi hm hroom hc63 hvb hcl hvl hcs hsp hfz hvs h1c h1v tA tB kA kB hsa hsb hkB hfa=>T1 b n c i vb m vc cs vs w hi hm hroom hc63 hvb hcl hvl hcs hsp hfz hvs h1c h1v tA tB kA kB hsa hsb hkB hfa
 grow:=fun b n c i vb m vc cs vs w hi hm hnc hroom hle hbig hcl hvl hcs hvs h1c h1v=>T3 b n c i vb m vc cs vs w hi hm hnc hroom i0 z hi0 hz0 hzs hzc hle hbig hcl hvl hcs hvs h1c h1v
theorem E9(G:GS)(n:Nat)(s:List Loop)(i:Int)(v:List Loop)(gs gv:Nat){r:List Loop}(h:gC n s i v=some r):
  VQ G 61 [ar 64 gs 2 aD s,ar 64 gv 2 aD v] [ms 0 gs 2 aD s,vI i,ms 1 gv 2 aD v] (ms 0 (gs+1) 2 aD r) [ar 64 (gs+1) 2 aD r,ar 64 gv 2 aD v]:=by
 unfold gC at h;refine tY (decide ((0:Int)≤i)) (fun c1=>?_) fun c1=>?_
 ·have h:=bf c1 h;exact nof h
 have h:=bt c1 h;refine tY (decide (i≤(s.length:Int))) (fun c2=>?_) fun c2=>?_
 ·have h:=bf c2 h;exact nof h
 have h:=bt c2 h;have g0:=of_decide_eq_true c1;have g1:=of_decide_eq_true c2;obtain⟨k,rfl⟩: ∃k:Nat,i=(k:Int):=⟨i.toNat,by omega⟩
 simp only [Int.toNat_natCast] at h;have hif:(Tryz.prog.info? 64).map (fun i=>(i.zero.map fun z=>z.cells.size,i.size,Nat.ble i.bytes 140000))=some (some 2,2,true):=by kernel_rfl
 cases hq:Tryz.prog.info? 64 with
 |none=>rw [hq] at hif;cases hif
 |some i0=>
  rw [hq] at hif;simp only [Option.map_some,Option.some.injEq,Prod.mk.injEq] at hif;obtain⟨h1,h2,h3⟩:=hif;cases hz:i0.zero with
  |none=>rw [hz] at h1;cases h1
  |some z=>
   rw [hz] at h1;simp only [Option.map_some,Option.some.injEq] at h1;refine aKc ⟨_,Tryz.func61,by kernel_rfl,by kernel_rfl⟩ (aCl hq hz h2 h1) Tryz.underlying51 hq hz h1 h2 Tryz.underlying64 (by decide) (rZ h3) aD (fun _=>rfl) s v r k gs gv (by omega) h
abbrev nd1:List Nd:=[⟨54,2,[]⟩]
theorem A9(G:GS)(n:Nat)(s0 s:List Loop)(i:Int)(v:List Loop)(gs gv:Nat){r:List Loop}(e:(s0.map aD).length=(s.map aD).length)(h:gC n s i v=some r):
  VQ G 61 [ar 64 gs 2 aD s,ar 64 gv 2 aD v] [ms 0 gs 2 aD s0,vI i,ms 1 gv 2 aD v] (ms 0 (gs+1) 2 aD r) [ar 64 (gs+1) 2 aD r,ar 64 gv 2 aD v]:=by have:=E9 G n s i v gs gv h;show VCC _ _ _ _ [V.msl 0 gs 2 0 (s0.map aD).length,vI i,ms 1 gv 2 aD v] _ _;rw [e];exact this
end Go.Lift
