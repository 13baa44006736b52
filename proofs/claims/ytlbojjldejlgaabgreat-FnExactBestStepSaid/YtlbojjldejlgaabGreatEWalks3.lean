/- Tools. -/
import Derived.Test.YtlbojjldejlgaabGreatEWalks2
set_option maxRecDepth 10000
set_option linter.unusedVariables false
namespace Go.Lift
open Go Go.Proofs Go.Proofs.Tryz
variable (G:cw){n:Nat}
theorem Uh(G:cw)(n:Nat)(s:Stmt)(c:FuncId)(a:List T)(change:az->Option az)(d: ∀(k:az) r,change k=some r->aX G c [V.agg (cf k),V.aK a] (V.agg (cf r))){r:Stmt}(h:o0 n s change=some r):aX G 187 [V.agg (fq s),V.fn c [V.aK a]] (V.agg (fq r)):=by refine ba aO func187 rfl λw X l=>ad l [.z (.b (true)),.z (.nat 20)] (ah (bH h λm e o i h=>?_));cases h;exact bA l bz [aj (Sh G n s.write c a change d e),aj (Uj G n s.value c a change d i)] au
theorem Sg(G:cw)(n:Nat)(a:b7)(e:FuncId)(c:List T)(d:List T)(change:az->Option az)(i: ∀(s:az) r,change s=some r->aX G e [V.agg (cf s),V.aK c,V.aK d] (V.agg (cf r))){r:b7}(h:sc n a change=some r):aX G 250 [V.agg (f' a),V.fn e [V.aK c,V.aK d]] (V.agg (f' r)):=by refine ba aO func250 rfl λw X k=>ad k [.z (.b (true)),.z (.nat 20)] (ad k [.z (.nat 21)] (ah (ad k [aF aC a.bD] (bd (bV k [.eU 21 1 22 101] (cg h (λm x=>bb [(1,V.fn e [V.aK c,V.aK d]),(4,V.ref 20 0),(5,V.ref 21 0),(12,aB aC a.bD),(13,Y (a.bD.length:Int)),(14,Y m.2)] [(20,E.cells [cG [],bl]),(21,E.cells [cG a.array,ms 22 x 2 aC m.1]),(22,aE 101 x 2 aC m.1)] [20,21,22]) 1 (aL) ?_))))));rintro l ⟨y,A⟩ B h;refine ae k (cI h (λC h=>ar (bw (ai h λD o h=>ad k [aZ aC o,.z (.nat 23)] (bH h λF p H q h=>bA k bz [aj (i D _ p),.z (.int 0),bP (b8 aC q),bK 2 gm y,bK 2 gm [F]] (be k ⟨(H,wr (A+1)),(B+1),h,aL⟩))))) λC h=>?_);cases h;exact bn (ad k [.z (.at 2),.z (.bu 22 [] [21])] au)
theorem Ui(G:cw): ∀(n:Nat) (e:Expr) (d:FuncId) (a:List T) (c:List T) (change:az->Option az) (i: ∀(D:az) r,change D=some r->aX G d [V.agg (cf D),V.aK a,V.aK c] (V.agg (cf r))) {r:Expr} (h:lp n e change=some r),aX G 251 [V.agg (c' e),V.fn d [V.aK a,V.aK c]] (V.agg (c' r)):=by
 intro n;induction n with
 |zero=>intro e d a c change i r h;rw[lp.eq_def] at h;cases h
 |succ n H=>
  intro e d a c change i r h;rw[lp.eq_def] at h;dsimp only at h;refine ba aO func251 rfl λw X k=>ad k [.z (.b (true)),.z (.nat 20)] (ad k [.z (.nat 21)] (bG h (λl=>bb [(1,V.fn d [V.aK a,V.aK c]),(2,V.aK (fp e)),(4,V.ref 20 0),(5,V.ref 21 0)] [(20,E.cells [Y 0,Y 0,bl,Y 0,cG [],bl,bl]),(21,E.cells [Y e.kind,Y e.num,aB ab l.1,Y l.2.1,cG l.2.2.1,aB aC l.2.2.2,bl])] [20,21]) (λu h=>?_) ?_))
  ·refine ae k (bd (ae k (aw h (λK h=>?_) λK h=>?_)))
   ·obtain⟨v,y,h⟩:=dd h;exact ax k [aj (i e.index _ y)] (al h)
   refine ae k (aw h (λL h=>?_) λL h=>ar (al h));obtain⟨I,A,h⟩:=dd h;exact ax k [aj (Sg G n e.read d a c change i A)] (al h)
  rintro⟨Q,R,W,f⟩ h;refine ah (ad k [aF bW e.bj] (bd (bV k [.eU 21 6 22 124] (cg h (λl F=>bb [(1,V.fn d [V.aK a,V.aK c]),(4,V.ref 20 0),(5,V.ref 21 0),(30,aB bW e.bj),(31,Y (e.bj.length:Int)),(32,Y l.2)] [(20,E.cells [Y 0,Y 0,bl,Y 0,cG [],bl,bl]),(21,E.cells [Y e.kind,Y e.num,aB ab Q,Y R,cG W,aB aC f,ms 22 F 7 bW l.1]),(22,aE 124 F 7 bW l.1)] [20,21,22]) 1 (aL) ?_))));rintro p ⟨g,j⟩ B h;refine ae k (cI h (λt h=>?_) λt h=>?_)
  ·refine ar (bw ?_);obtain⟨m,q,h⟩:=dd h;refine ad k [.z (.row (fa m)),.z (.nat 23),aA (gN bW q (fm m))] ?_;obtain⟨o,s,C,x,h⟩:=hK h;exact bA k bz [aj (H m d a c change i s),.z (.int 2),.z (.rows (List.map bW [o])),aA (qY o),bP (b8 bW x),bK 7 kB g,bK 7 kB [o]] (be k ⟨(C,wr (j+1)),(B+1),h,aL⟩)
  cases h;exact bn (ad k [.z (.at 2),.z (.bu 22 [] [21])] au)
theorem Ug(G:cw)(n:Nat)(s:Stmt)(d:FuncId)(a:List T)(c:List T)(change:az->Option az)(e: ∀(l:az) r,change l=some r->aX G d [V.agg (cf l),V.aK a,V.aK c] (V.agg (cf r))){r:Stmt}(h:o0 n s change=some r):aX G 187 [V.agg (fq s),V.fn d [V.aK a,V.aK c]] (V.agg (fq r)):=by refine ba aO func187 rfl λw X m=>ad m [.z (.b (true)),.z (.nat 20)] (ah (bH h λo i p k h=>?_));cases h;exact bA m bz [aj (Sg G n s.write d a c change e i),aj (Ui G n s.value d a c change e k)] au
variable {r:az}{b:List Part}{a:Type}{l:List a}{i:Int}{x y:a}{o:Nat}{z:Value}
theorem Q1(G:cw)(n:Nat)(a:List Part)(i:Int)(p:Part)(m:av a i=some p)(g:Nat)(e:Int)(q:FuncId)(c:List T)(f:az->Option az)(R: ∀(W:az) r,f W=some r->aX G q [V.agg (cf W),V.aK c] (V.agg (cf r))){t:Part}(h:oK n p e f=some t)(H:ca a i t=some b):
  cA G 108 [E.a6 b1 0 g (a.map an) []] [V.ct 0 g 2 (0+Int.toNat i) 0,Y e,V.fn q [V.aK c]] (V.bJ []) [E.a6 b1 0 g (List.map an b) []]:=by refine cK aO func108 rfl λw X v d S=>ah (ae d (dc d [.eb 0 21 (0+Int.toNat i) 0 (an p),.eb 0 22 (0+Int.toNat i) 1 (an p),.ed 22] (a2 (cr an m) (cr an m)) (bd (cj h (λs=>bb [(0,V.ct 0 g 2 (0+Int.toNat i) 0),(2,V.fn q [V.aK c]),(6,Y s.2)] [(0,E.a6 b1 0 g (a.map an) [((0+Int.toNat i),1,ms 22 1 9 bq p.body),((0+Int.toNat i),0,ms 21 1 2 aq p.nest)]),(21,E.a6 b1 1 1 (s.1.map aq) []),(22,aE 126 1 9 bq p.body)] [0,21,22]) aL ?_))));rintro D ⟨x,k⟩ h;refine ai h λU o h=>ah (ad d [br an m,.z (.nat x.length),aA (Px aq o)] (aw h (λI h=>ar (bw (cC h λM A jm K mr L h=>ax d [br an m,aA (Bj aq o A),bo [21] [] (Q3 G n x k M A 1 q c f R K L)] (be d (al h))))) λI h=>bn (ad d [br an m,aF bq p.body] (bd (cj h (λs=>bb [(0,V.ct 0 g 2 (0+Int.toNat i) 0),(2,V.fn q [V.aK c]),(30,ms 22 1 9 bq s.1),(31,Y (p.body.length:Int)),(32,Y s.2)] [(0,E.a6 b1 0 g (a.map an) [((0+Int.toNat i),1,ms 22 1 9 bq p.body),((0+Int.toNat i),0,ms 21 1 2 aq p.nest)]),(21,E.a6 b1 1 1 (x.map aq) []),(22,aE 126 1 9 bq s.1)] [0,21,22]) aL ?_)))));rintro F ⟨y,j⟩ h;refine ai h λs2 B h=>ae d (cI h (λN h=>ar (bw (ai h λP l h=>ad d [aA (bF bq l),br bq l,.z (.nat 24)] (bH h λnk Q u C h=>bA d bz [br an m,aj (Uh G n P q c f R Q),aA (Bj bq B l),br bq l,.z (.rows (u.map bq)),aA (str bq C)] (dc d [.len 30 (u.map bq).length] (aH (cE bq C)) (be d (al h))))))) λN h=>?_);cases h;exact dc d [.ee 22 b1 2,.dD 0 22 (an p) (List.map an (a.set i.toNat (⟨p.nest,y⟩:Part))),.dD 0 21 (an (⟨p.nest,y⟩:Part)) (List.map an b)] (e9 (iJ bq B) (Eq.refl b1) (cr an m) (gv an (vy H (⟨p.nest,y⟩:Part)) rfl) (iJ aq o) (Eq.refl b1) (cr an (tr H (⟨p.nest,y⟩:Part))) (gv an (vx H (⟨p.nest,y⟩:Part)) rfl)) (bn p0)
theorem I5(G:cw)(n:Nat)(a:List Part)(i:Int)(p:Part)(o:av a i=some p)(g:Nat)(l:Int)(s:FuncId)(c:List T)(d:List T)(f:az->Option az)(W: ∀(t:az) r,f t=some r->aX G s [V.agg (cf t),V.aK c,V.aK d] (V.agg (cf r))){u:Part}(h:oK n p l f=some u)(K:ca a i u=some b):
  cA G 108 [E.a6 b1 0 g (a.map an) []] [V.ct 0 g 2 (0+Int.toNat i) 0,Y l,V.fn s [V.aK c,V.aK d]] (V.bJ []) [E.a6 b1 0 g (List.map an b) []]:=by refine cK aO func108 rfl λw X I e U=>ah (ae e (dc e [.eb 0 21 (0+Int.toNat i) 0 (an p),.eb 0 22 (0+Int.toNat i) 1 (an p),.ed 22] (a2 (cr an o) (cr an o)) (bd (cj h (λA=>bb [(0,V.ct 0 g 2 (0+Int.toNat i) 0),(2,V.fn s [V.aK c,V.aK d]),(6,Y A.2)] [(0,E.a6 b1 0 g (a.map an) [((0+Int.toNat i),1,ms 22 1 9 bq p.body),((0+Int.toNat i),0,ms 21 1 2 aq p.nest)]),(21,E.a6 b1 1 1 (A.1.map aq) []),(22,aE 126 1 9 bq p.body)] [0,21,22]) aL ?_))));rintro F ⟨x,k⟩ h;refine ai h λs1 q h=>ah (ad e [br an o,.z (.nat x.length),aA (Px aq q)] (aw h (λM h=>ar (bw (cC h λN B jm L mr Q h=>ax e [br an o,aA (Bj aq q B),bo [21] [] (Q2 G n x k N B 1 s c d f W L Q)] (be e (al h))))) λM h=>bn (ad e [br an o,aF bq p.body] (bd (cj h (λA=>bb [(0,V.ct 0 g 2 (0+Int.toNat i) 0),(2,V.fn s [V.aK c,V.aK d]),(30,ms 22 1 9 bq A.1),(31,Y (p.body.length:Int)),(32,Y A.2)] [(0,E.a6 b1 0 g (a.map an) [((0+Int.toNat i),1,ms 22 1 9 bq p.body),((0+Int.toNat i),0,ms 21 1 2 aq p.nest)]),(21,E.a6 b1 1 1 (x.map aq) []),(22,aE 126 1 9 bq A.1)] [0,21,22]) aL ?_)))));rintro H ⟨y,j⟩ h;refine ai h λs2 C h=>ae e (cI h (λP h=>ar (bw (ai h λS m h=>ad e [aA (bF bq m),br bq m,.z (.nat 24)] (bH h λnk R v D h=>bA e bz [br an o,aj (Ug G n S s c d f W R),aA (Bj bq C m),br bq m,.z (.rows (v.map bq)),aA (str bq D)] (dc e [.len 30 (v.map bq).length] (aH (cE bq D)) (be e (al h))))))) λP h=>?_);cases h;exact dc e [.ee 22 b1 2,.dD 0 22 (an p) (List.map an (a.set i.toNat (⟨p.nest,y⟩:Part))),.dD 0 21 (an (⟨p.nest,y⟩:Part)) (List.map an b)] (e9 (iJ bq C) (Eq.refl b1) (cr an o) (gv an (vy K (⟨p.nest,y⟩:Part)) rfl) (iJ aq q) (Eq.refl b1) (cr an (tr K (⟨p.nest,y⟩:Part))) (gv an (vx K (⟨p.nest,y⟩:Part)) rfl)) (bn p0)
theorem SZ(G:cw)(n:Nat)(a:az)(c:Int)(h:uk n a c=some r):aX G 109 [V.agg (cf a),V.aK [T.int .i64 c]] (V.agg (cf r)):=ba aO func109 rfl λw X i=>ad i [.z (.b (true)),.z (.nat 20)] (ai h λs o h=>ad i [bo [] [21] (Ch G o),.z (.nat 22)] (ah (cC h λx k y d p e h=>bH h λA l q m h=>ak h▸bA i bz [aA (bF ab k),br ab k,aA (bF ab d),br ab d,aA (bF ab d),br ab d,.z (.rows (p.map ab)),aA (str ab e),aA (Bk ab l (cE ab e)),br ab l,.z (.rows (q.map ab)),aA (str ab m)] (dc i [.len 11 (p.map ab).length,.ff 22 0 (p.map ab).length,.ff 22 0 (q.map ab).length] (a3 (cE ab e) (cE ab e) (cE ab m)) (ad i [.z (.at 2),.z (.bu 21 [] [22])] au)))))
theorem qe{p}{r}(h:k9 n p=some r):aX G 111 [V.agg (b3 p)] (V.bJ [V.agg (b3 r.1),aM r.2]):=ba aO func111 rfl λw X a=>ad a [.z (.b (true)),.z (.nat 20)] (ah (ai h λi c h=>ad a [aj (lW G c)] (aw h (λe h=>ak h▸ae a au) λe h=>ar (ai h λk d h=>ak h▸ad a [bo [] [21,22] (Jn G d)] (bV a [.bu 21 [] [20]] (bV a [.bu 22 [] [20]] au))))))
theorem ZR{r:List a}{j:Int}(h:ca l i x=some r)(b:av l j=some y)(c:0+i.toNat≠0+j.toNat):av r j=some y:=by obtain⟨_,_,rfl⟩:=sj h;obtain⟨d,e⟩:=l9 b;unfold av;rw[aW d,jT O];exact e
theorem acU(h:av l i=some x)(c:av l (wr (i+1))=some y)(d: ¬(i<0)):0+Int.toNat i≠0+Int.toNat (wr (i+1)):=by
 intro e;have k:=l9 c;have m:=(l9 h).1;have b:wr (i+1)=i:=O
 unfold wr at b;rw[IntKind.wrap_i64] at b;omega
theorem Tc{p}{part}{loop}{r}(h:Cv n p part loop=some r):aX G 46 [V.agg (b3 p),Y part,Y loop] (V.bJ [V.agg (b3 r.1),aM r.2]):=by
 refine ba aO func46 rfl λw X d=>ad d [.z (.b (true)),.z (.b (true)),.z (.nat 20)] (ah (ai h λM F h=>a8 h (λf h=>ax d [aj (qm G n p part loop F f),.z (.nat 21)] (ah (ah (bA d bz (dJ 29) (jC (b:=true) J (λe=>ak h▸ae d au) λe=>by cases e))))) λf h=>ax d [bo [] [21,22] (ql G n p part loop F f),.z (.nat 23)] (ah (ah (jE (decide (loop<0)) (λe=>?_) λe=>?_)))));rotate_left
 ·have h:=hc e h;exact bA d bz ([bZ,bZ,bZ]++aN 9 e++dJ 17) (jC (b:=true) J (λm=>ak h▸ae d au) λm=>by cases m)
 have h:=hb e h;refine ai h λA c h=>dc d [.eb 22 24 (0+Int.toNat part) 0 (an A)] (aH (cr an c)) (jE (decide ((A.nest.length:Int)<=wr (loop+1))) (λo=>?_) λo=>?_);rotate_left
 ·have h:=hc o h;exact bA d bz ([bZ,bZ,bZ]++aJ 6 e++[br an c,aG e,aF aq A.nest,aG e,aG e]++aN 11 o++dJ 6) (jC (b:=true) J (λm=>ak h▸ae d au) λm=>by cases m)
 have h:=hb o h;refine bH h λq a v H h=>dc d [.eb 24 25 (0+Int.toNat (wr (loop+1))) 0 (aq q),.eb 24 26 (0+Int.toNat (wr (loop+1))) 1 (aq q)] (a2 (cr aq a) (cr aq a)) (jE v (λC=>?_) λC=>?_);rotate_left
 ·have h:=hc C h;exact bA d bz ([bZ,bZ,bZ]++aJ 6 e++[br an c,aG e,aF aq A.nest,aG e,aG e]++aJ 4 o++[br an c]++aJ 3 o++[aA (bF aq a),aG o,br aq a,aG o,aG o,.z (.b true),.z (.nat 25),.z (.nat 26),aj (Kj G H),aG o]++aN 6 C) (jC (b:=true) J (λm=>ak h▸ae d au) λm=>by cases m)
 have h:=hb C h;refine ai h λg j h=>bA d bz ([bZ,bZ,bZ]++aJ 6 e++[br an c,aG e,aF aq A.nest,aG e,aG e]++aJ 4 o++[br an c]++aJ 3 o++[aA (bF aq a),aG o,br aq a,aG o,aG o,.z (.b true),.z (.nat 25),.z (.nat 26),aj (Kj G H),aG o]++aJ 4 C++[aj (KI G n p part 107 [T.int .i64 loop] (λD=>uA n D loop) (λD t r h=>S1 G n D t loop h) j),aG C,aG C]) (dy (b:= !g) (λm=>?_) λm=>?_)
 ·have m:g=false:=by simpa using m
  have h:=hb m h;exact ak h▸ae d au
 have m:g=true:=by simpa using m
 have h:=hc m h;refine ar (ah (cC h λs k K l L x h=>ai h λQ y h=>?_));have i:=acU k a (of_decide_eq_false e);exact dc d [.eb 24 27 (0+Int.toNat loop) 0 (aq s),.eb 24 28 (0+Int.toNat loop) 1 (aq s)] (a4 (cr aq k) i (cr aq k) i) (bA d bz [br an c,br an c,br an c,.z (.int 2),aA (bF aq a),br aq a,br an c,aA (bF aq k),br aq k,.z (.int 0),.z (.nat 2),aA (bF aq k),br aq k,.z (.int 2),.z (.nat 2),aA (kV i),aA (kV i),aA (bF aq a),br aq a,aA i,aA i] (dc d [.dD 24 26 (aq s) (List.map aq (A.nest.set loop.toNat (⟨s.lo,q.aD⟩:Loop))),.dD 24 25 (aq (⟨s.lo,q.aD⟩:Loop)) (K.map aq),.dD 24 28 (aq q) (List.map aq (K.set (wr (loop+1)).toNat (⟨q.lo,s.aD⟩:Loop))),.dD 24 27 (aq (⟨q.lo,s.aD⟩:Loop)) (L.map aq),.dD 22 24 (an A) (Q.map an)] (nF (Eq.refl (q.aD.map aC).length) (nF (Eq.refl b1) (nF (cr aq k) (nF (gv aq (vy l (⟨s.lo,q.aD⟩:Loop)) rfl) (nF i (nF (Eq.refl (q.lo.map aC).length) (nF (Eq.refl b1) (nF (cr aq (tr l (⟨s.lo,q.aD⟩:Loop))) (nF (gv aq (vx l (⟨s.lo,q.aD⟩:Loop)) rfl) (nF i (a12 (Eq.refl (s.aD.map aC).length) (Eq.refl b1) (cr aq (ZR l a i)) (gv aq (vy x (⟨q.lo,s.aD⟩:Loop)) rfl) (Eq.refl (s.lo.map aC).length) (Eq.refl b1) (cr aq (tr x (⟨q.lo,s.aD⟩:Loop))) (gv aq (vx x (⟨q.lo,s.aD⟩:Loop)) rfl) ((cE aq l).trans (cE aq x)) (Eq.refl b1) (cr an c) (gv an y rfl)))))))))))) (bH h λE R u B h=>ad d [bo [22] [] (Q1 G n Q part (⟨L,A.body⟩:Part) (A3 y) 1 (wr (loop+2)) 109 [T.int .i64 loop] (λD=>uk n D loop) (λD r h=>SZ G n D loop h) R B)] (dc d [.ed 22,.ff 23 1 (u.map an).length,.bu 21 [] [23],.bu 22 [] [23]] (aH ((cE an y).trans (cE an B))) (ai h λI W h=>ak h▸ad d [aj (qe G W)] au)))))
theorem UA(G:cw)(n:Nat)(a:az){r:Bool}(h:CZ n a=some r):aX G 252 [V.agg (cf a)] (aM r):=ba aO func252 rfl λw X d=>ad d [.z (.b (true))] (ai h λe c h=>ak h▸ad d [aj (rM G c)] au)
theorem Eg{a}{r}(h:yS n a=some r):aX G 188 [aB aC a] (aM r):=ba aO func188 rfl λw X d=>ae d (ai h λe b h=>ak h▸ad d [aj (ajk G n a 252 (λc=>CZ n c) (λc r h=>UA G n c h) b)] au)
theorem Ju{l}{r}(h:uS n l=some r):aX G 112 [V.agg (hf l)] (V.bJ [Y r.1,Y r.2.1,aM r.2.2]):=ba aO func112 rfl λw X d=>ad d [.z (.b (true))] (ah (bG h (λp=>bN [(1,V.aK (mv l)),(26,aM p)]) (λs h=>a8 h (λa h=>a8 h (λc h=>ai h λx e h=>a8 h (λi h=>ai h λy k h=>ax d ([aF aC l.lo]++aJ 3 a++[aF aC l.aD,aG a,aG a]++aJ 3 c++[aj (Eg G e),aG c,aG c]++aJ 3 i++[aj (Eg G k),aG i,aG i]) (al h)) λi h=>ax d ([aF aC l.lo]++aJ 3 a++[aF aC l.aD,aG a,aG a]++aJ 3 c++[aj (Eg G e),aG c,aG c]++aN 5 i) (al h)) λc h=>ax d ([aF aC l.lo]++aJ 3 a++[aF aC l.aD,aG a,aG a]++aN 5 c++dJ 5) (al h)) λa h=>ax d ([aF aC l.lo]++aN 5 a++dJ 10) (al h)) λA h=>aw h (λq h=>ak h▸ae d au) λq h=>ar (ah (bH h λB m C o h=>ak h▸bA d bz [aZ aC m,aZ aC o] au))))
theorem SY(G:cw)(n:Nat)(d:List Int)(c:Nat)(a:Int){r:(List Int)}(h:ui n d a=some r):cA G 113 [aE 3 c 1 ab d] [ms 0 c 1 ab d,V.aK [T.int .i64 a]] (V.bJ []) [aE 3 c 1 ab r]:=cK aO func113 rfl λw X i k m=>bH h λo b l e h=>ak h▸bA k bz [aA (bF ab b),br ab b,aA (bF ab b),br ab b,.z (.rows (l.map ab)),aA (str ab e)] p0
theorem uU{a}{r}(h:oZ n a=some r):cA G 123 [] [Y a] (V.agg [ms 0 1 1 ab r.aU,Y r.const]) [aE 3 1 1 ab r.aU]:=cK aO func123 rfl λw X d c e=>ad c [.z (.nat 20)] (ai h λi b h=>ak h▸ad c [.z (.nat 21),bP (ly ab b),aA (jG b).1] (bV c [.dR 21 0 [] [20]] dz))
theorem sa{v}{k}{r}(h:mO n v k=some r):cA G 114 [] [Y v,Y k] (V.agg [ms 0 1 1 ab r.aU,Y r.const]) [aE 3 1 1 ab r.aU]:=cK aO func114 rfl λw X i a l=>ad a [.z (.nat 20)] (ai h λm d h=>ad a [bo [] [21] (uU G d),.z (.nat 22)] (bH h λo b e c h=>ak h▸ad a [aA (bF ab b),br ab b,.z (.rows (e.map ab)),.z (.ff 22 0 (e.map ab).length),aA (str ab c),aA (cE ab c)] (ae a (bV a [.dR 21 0 [] [20,22]] dz))))
theorem AJ{a}{k}{b}{r}(h:rv n a k b=some r):cA G 120 [] [V.agg (cf a),Y k,V.agg (cf b)] (V.agg [ms 0 1 1 ab r.aU,Y r.const]) [aE 3 1 1 ab r.aU]:=by refine cK aO func120 rfl λw X s c C=>ad c [.z (.b (true)),.z (.b (true)),.z (.nat 20)] (ai h λx l h=>ad c [bo [] [21] (Ch G l),.z (.nat 22)] (ah (ad c [aF ab b.aU] (bd (cg h (λm q=>bb [(1,Y k),(5,V.aK (fZ b)),(6,V.ref 20 0),(7,V.ref 22 0),(13,aB ab b.aU),(14,Y (b.aU.length:Int)),(15,Y m.2)] [(20,E.cells [bl,Y 0]),(21,aE 3 q 1 ab m.1),(22,E.cells [ms 21 q 1 ab m.1,Y x.const])] [20,21,22]) 1 (aL) ?_)))));rintro i ⟨D,y⟩ A h;exact ae c (cI h (λB h=>ar (bw (ai h λF o h=>ad c [aZ ab o] (bH h λH d p e h=>ax c [aA (bF ab d),br ab d,aA (bF ab d),br ab d,.z (.rows (p.map ab)),.z (.ff 22 0 (p.map ab).length),aA (str ab e),aA (cE ab e)] (be c ⟨(p,wr (y+1)),A,h,aL⟩))))) λB h=>ak h▸bn (ae c (ae c (bV c [.dR 21 0 [] [20,22]] dz))))
theorem Fa{a}{v}{b}{r}(h:ta n a v b=some r):cA G 116 [] [V.agg (cf a),Y v,V.agg (cf b)] (V.agg [ms 0 1 1 ab r.aU,Y r.const]) [aE 3 1 1 ab r.aU]:=cK aO func116 rfl λw X m d o=>ad d [.z (.b (true)),.z (.b (true)),.z (.nat 20)] (ai h λp i h=>ad d [bo [] [21] (Ch G i),.z (.nat 22)] (ai h λq c h=>ad d [aA (bF ab c),br ab c] (ai h λl e h=>ad d [aA (bF ab c),br ab c,.z (.rows (l.map ab)),.z (.ff 22 0 (l.map ab).length),aA (str ab e),aA (cE ab e)] (ai h λs k h=>ak h▸ad d [.z (.at 5),.z (.bu 21 [] [22]),bo [] [23] (AJ G k)] (bV d [.dR 23 0 [] [20]] dz)))))
theorem SX(G:cw)(n:Nat)(a:az)(c:Int)(d:az)(h:uh n a c d=some r):aX G 115 [V.agg (cf a),V.aK [T.int .i64 c],V.aK (fZ d)] (V.agg (cf r)):=ba aO func115 rfl λw X e=>ad e [.z (.b (true)),.z (.nat 20)] (ai h λk i h=>ak h▸ad e [bo [] [21] (Fa G i)] (bV e [.bu 21 [] [20]] au))
theorem Tb{p}{part}{loop}{r}(h:Cu n p part loop=some r):aX G 47 [V.agg (b3 p),Y part,Y loop] (V.bJ [V.agg (b3 r.1),aM r.2]):=by
 refine ba aO func47 rfl λw X a=>ad a [.z (.b (true)),.z (.b (true)),.z (.nat 20)] (ah (ai h λR q h=>a8 h (λA h=>ax a [aj (qm G n p part loop q A),.z (.nat 21)] (ah (ad a [dT,dT,dT] (jC (b:=true) J (λW=>ak h▸ae a au) λW=>by cases W)))) λA h=>ax a [bo [] [21,22] (ql G n p part loop q A),.z (.nat 23)] (ah (ad a [bZ,bZ,bZ] (aw h (λf h=>ak h▸ae a au) λf h=>ar (ah (cC h λm d o c i B h=>dc a [.eb 22 24 (0+Int.toNat part) 0 (an m),.eb 24 25 (0+Int.toNat loop) 0 (aq o),.eb 24 26 (0+Int.toNat loop) 1 (aq o)] (a3 (cr an d) (cr aq c) (cr aq c)) (bA a bz [br an d,aA (bF aq c),br aq c,.z (.b true),.z (.nat 25),.z (.nat 26),aj (Ju G B)] (dc a [.dD 24 26 (aq o) (m.nest.map aq),.dD 24 25 (aq o) (m.nest.map aq),.dD 22 24 (an m) (R.1.parts.map an)] (a12 (Eq.refl (o.aD.map aC).length) (Eq.refl b1) (cr aq c) (iM aq c rfl) (Eq.refl (o.lo.map aC).length) (Eq.refl b1) (cr aq c) (iM aq c rfl) (Eq.refl (m.nest.map aq).length) (Eq.refl b1) (cr an d) (iM an d rfl)) (ah (ah (a8 h (λC h=>?_) λC h=>?_))))))))))))
 ·have s:(!i.2.2)=true:=by rw[C];rfl
  exact ax a (aN 6 s) (jC (b:=true) J (λe=>ak h▸ae a au) λe=>by cases e)
 have s:(!i.2.2)=false:=by rw[C];rfl
 refine ai h λD F h=>ax a (aJ 4 s++[aj (KI G n p part 113 [T.int .i64 loop] (λl=>ui n l loop) (λl H r h=>SY G n l H loop h) F),aG s,aG s]) (dy (b:= !D) (λe=>?_) λe=>?_)
 ·have e:D=false:=by simpa using e
  have h:=hb e h;exact ak h▸ae a au
 have e:D=true:=by simpa using e
 have h:=hc e h;exact ar (ai h λK L h=>ad a [bo [] [28] (sa G L),.z (.nat 29)] (ae a (bV a [.bu 28 [] [29],.rN 29 [13]] (bH h λg x Q k h=>ad a [bo [22] [] (I5 G n R.1.parts part m d 1 (wr (loop+1)) 115 [T.int .i64 loop] [T.ay (K.aU.map ab),T.int .i64 (wr ((wr (i.1+i.2.1))-1))] (λl=>uh n l loop (⟨K.aU,wr ((wr (i.1+i.2.1))-1)⟩:az)) (λl r h=>SX G n l loop (⟨K.aU,wr ((wr (i.1+i.2.1))-1)⟩:az) h) x k)] (dc a [.ed 22,.ff 23 1 (Q.map an).length,.bu 21 [] [23],.bu 22 [] [23]] (aH (cE an k)) (ai h λj y h=>ak h▸ad a [aj (qe G y)] au))))))
theorem LY{a}{r}(h:wj n a=some r):aX G 117 [Y a] (aM r):=ba aO func117 rfl λw X c=>ae c (ai h λd b h=>ak h▸ad c [aj (fv G b)] au)
theorem Un(G:cw)(n:Nat)(a:az)(c:Int)(d:Int)(h:x9 n a c d=some r):aX G 119 [V.agg (cf a),V.aK [T.int .i64 c],V.aK [T.int .i64 d]] (V.agg (cf r)):=ba aO func119 rfl λw X e=>ad e [.z (.b (true)),.z (.nat 20)] (ah (bH h λl i m k h=>ak h▸bA e bz [bo [] [21] (sa G i),.z (.at 2),.z (.bu 21 [8] []),bo [] [22] (AJ G k)] (bV e [.bu 22 [] [20]] au)))
theorem Um(G:cw)(n:Nat)(a:az)(c:Int)(d:az)(h:uR n a c d=some r):aX G 121 [V.agg (cf a),V.aK [T.int .i64 c],V.aK (fZ d)] (V.agg (cf r)):=ba aO func121 rfl λw X e=>ad e [.z (.b (true)),.z (.nat 20)] (ai h λk i h=>ak h▸ad e [bo [] [21] (Fa G i)] (bV e [.bu 21 [] [20]] au))
theorem Vi{p}{part}{loop}{d}{r}(h:DT n p part loop d=some r):aX G 48 [V.agg (b3 p),Y part,Y loop,Y d] (V.bJ [V.agg (b3 r.1),aM r.2]):=ba aO func48 rfl λw X c=>ad c [.z (.b (true)),.z (.b (true)),.z (.b (true)),.z (.nat 20)] (ah (ai h λo s h=>a8 h (λD h=>ax c [aj (qm G n p part loop s D),.z (.nat 21)] (ah (ah (bA c bz (dJ 16) (jC (b:=true) J (λe=>ak h▸ae c au) λe=>by cases e))))) λD h=>ax c [bo [] [21,22] (ql G n p part loop s D),.z (.nat 23)] (ah (bG h (λf=>bb [(6,V.aK [T.int .i64 loop]),(7,V.aK [T.int .i64 d]),(8,V.ref 20 0),(10,V.ref 23 0),(11,V.ct 22 1 2 (0+Int.toNat part) 0),(42,aM f)] [(20,E.cells [bl,bl]),(21,aE 72 1 2 bm o.1.aY),(22,E.a6 b1 0 1 (o.1.parts.map an) []),(23,E.cells [ms 21 1 2 bm o.1.aY,ms 22 1 2 an o.1.parts])] [20,21,22,23]) (λM h=>a8 h (λe h=>ai h λi a h=>dc c [.eb 22 24 (0+Int.toNat part) 0 (an i)] (aH (cr an a)) (a8 h (λq h=>ai h λg F h=>bA c bz ([bZ,bZ,bZ]++aJ 6 e++[br an a,aG e,aF aq i.nest,aG e,aG e,aG q,aG q,aj (LY G F),aG q,aG q]) ⟨!g,h,S.le.trans (xh c [.dD 22 24 (an i) (o.1.parts.map an)] (a4 (Eq.refl (i.nest.map aq).length) (Eq.refl b1) (cr an a) (iM an a rfl))) (aL)⟩) λq h=>bA c bz ([bZ,bZ,bZ]++aJ 6 e++[br an a,aG e,aF aq i.nest,aG e,aG e]++aN 4 q) ⟨true,h,S.le.trans (xh c [.dD 22 24 (an i) (o.1.parts.map an)] (a4 (Eq.refl (i.nest.map aq).length) (Eq.refl b1) (cr an a) (iM an a rfl))) (aL)⟩)) λe h=>bA c bz ([bZ,bZ,bZ]++aN 9 e++dJ 4) (al h)) λN h=>aw h (λj h=>ak h▸ae c au) λj h=>ar (ah (cC h λi a t x P H h=>bH h λu y A k h=>bA c bz [.z (.eb 22 25 (0+Int.toNat part) 0 (an i)),br an a,aA (cr an a),aA (bF aq x),bo [25] [] (Q2 G n i.nest (wr (loop+1)) t x 1 119 [T.int .i64 d] [T.int .i64 loop] (λm=>x9 n m d loop) (λm r h=>Un G n m d loop h) H y)] (dc c [.dD 22 25 (an i) (A.map an)] (a4 (cE aq y) (Eq.refl b1) (cr an a) (gv an k rfl)) (ah (ai h λU K h=>ai h λJQ L h=>ai h λQ R h=>bA c bz [bo [] [26] (sa G K),bo [] [27] (sa G L),.z (.at 3),.z (.bu 26 [55] []),.z (.at 3),.z (.bu 27 [59] []),bo [] [28] (AJ G R),.z (.nat 29)] (bV c [.bu 28 [] [29],.rN 29 [13]] (bH h λv B W l h=>ad c [bo [22] [] (I5 G n A part (⟨u,i.body⟩:Part) (A3 k) 1 (wr (loop+2)) 121 [T.int .i64 loop] (fZ Q) (λm=>uR n m loop Q) (λm r h=>Um G n m loop Q h) B l)] (dc c [.ed 22,.ff 23 1 (W.map an).length,.bu 21 [] [23],.bu 22 [] [23]] (aH ((cE an k).trans (cE an l))) (ai h λI C h=>ak h▸ad c [aj (qe G C)] au)))))))))))))
theorem Ta(G:cw)(n:Nat)(a:az)(c:Int)(h:xZ n a c=some r):aX G 122 [V.agg (cf a),V.aK [T.int .i64 c]] (V.agg (cf r)):=ba aO func122 rfl λw X d=>ad d [.z (.b (true)),.z (.nat 20)] (ah (bH h λk e l i h=>ak h▸bA d bz [bo [] [21] (uU G e),.z (.at 2),.z (.bu 21 [6] []),bo [] [22] (AJ G i)] (bV d [.bu 22 [] [20]] au)))
theorem Tv(G:cw)(n:Nat)(a:az)(c:Int)(d:az)(h:uO n a c d=some r):aX G 124 [V.agg (cf a),V.aK [T.int .i64 c],V.aK (fZ d)] (V.agg (cf r)):=ba aO func124 rfl λw X e=>ad e [.z (.b (true)),.z (.nat 20)] (ai h λk i h=>ak h▸ad e [bo [] [21] (Fa G i)] (bV e [.bu 21 [] [20]] au))
theorem UG{p}{part}{loop}{a}{r}(h:Dn n p part loop a=some r):aX G 49 [V.agg (b3 p),Y part,Y loop,Y a] (V.bJ [V.agg (b3 r.1),aM r.2]):=ba aO func49 rfl λw X c=>ad c [.z (.b (true)),.z (.b (true)),.z (.b (true)),.z (.nat 20)] (ah (ai h λA m h=>a8 h (λC h=>ax c [aj (qm G n p part loop m C),.z (.nat 21)] (ah (ad c (dJ 7) (jC (b:=true) J (λe=>ak h▸ae c au) λe=>by cases e)))) λC h=>ax c [bo [] [21,22] (ql G n p part loop m C),.z (.nat 23)] (ah (bG h (λQ=>bb [(6,V.aK [T.int .i64 loop]),(7,V.aK [T.int .i64 a]),(8,V.ref 20 0),(10,V.ref 23 0),(11,V.ct 22 1 2 (0+Int.toNat part) 0),(32,aM Q)] [(20,E.cells [bl,bl]),(21,aE 72 1 2 bm A.1.aY),(22,E.a6 b1 0 1 (A.1.parts.map an) []),(23,E.cells [ms 21 1 2 bm A.1.aY,ms 22 1 2 an A.1.parts])] [20,21,22,23]) (λt h=>a8 h (λe h=>ai h λu D h=>ax c [bZ,bZ,bZ,aG e,aG e,aj (LY G D),aG e,aG e] (al h)) λe h=>ax c ([bZ,bZ,bZ]++aN 4 e) (al h)) λv h=>aw h (λR h=>ak h▸ae c au) λR h=>ar (ah (cC h λB k W o I F h=>bH h λf q s d h=>bA c bz [.z (.eb 22 25 (0+Int.toNat part) 0 (an B)),br an k,aA (cr an k),aA (bF aq o),bo [25] [] (Q3 G n B.nest loop W o 1 122 [T.int .i64 a] (λl=>xZ n l a) (λl r h=>Ta G n l a h) F q)] (dc c [.dD 22 25 (an B) (s.map an)] (a4 (cE aq q) (Eq.refl b1) (cr an k) (gv an d rfl)) (ai h λH K h=>ad c [bo [] [26] (sa G K),.z (.nat 27)] (ae c (bV c [.bu 26 [] [27],.rN 27 [13]] (bH h λg x L i h=>ad c [bo [22] [] (I5 G n s part (⟨f,B.body⟩:Part) (A3 d) 1 (wr (loop+1)) 124 [T.int .i64 loop] [T.ay (H.aU.map ab),T.int .i64 (wr (0-a))] (λl=>uO n l loop (⟨H.aU,wr (0-a)⟩:az)) (λl r h=>Tv G n l loop (⟨H.aU,wr (0-a)⟩:az) h) x i)] (dc c [.ed 22,.ff 23 1 (L.map an).length,.bu 21 [] [23],.bu 22 [] [23]] (aH ((cE an d).trans (cE an i))) (ai h λj y h=>ak h▸ad c [aj (qe G y)] au)))))))))))))
theorem abH(f:a->List T){x:List a}{m:Nat}(c:o<l.length)(b:m=l.length-o):o+m<=(l.map f).length/\(rC l o x).map f=(l.map f).take o++(x.map f).take (Nat.min (x.map f).length m)++(l.map f).drop (o+Nat.min (x.map f).length m):=by subst b;refine⟨by rw[dj];omega,?_⟩;unfold rC;rw[gJ,gJ,sN,sN,List.map_drop,dj]
theorem Na(f:a->List T){x:List a}(b:o<l.length):(l.map f).length=((rC l o x).map f).length:=by
 unfold rC;simp only[List.length_map,List.length_append,List.length_take,List.length_drop]
 have:Nat.min x.length (l.length-o)=min x.length (l.length-o):=rfl;omega
theorem Tu(G:cw)(n:Nat)(a:az)(c:Int)(h:uN n a c=some r):aX G 126 [V.agg (cf a),V.aK [T.int .i64 c]] (V.agg (cf r)):=by
 refine ba aO func126 rfl λw X e=>ad e [.z (.b (true)),.z (.nat 20)] (ai h λd y h=>ad e [bo [] [21] (Ch G y),.z (.nat 22)] (jE (decide ((0:Int)<=wr (c+1))) (λq=>?_) λq=>?_))
 ·have h:=hb q h;exact iL h
 have h:=hc q h;refine jE (decide (wr (c+1)<(d.aU.length:Int))) (λs=>?_) λs=>?_
 ·have h:=hb s h;exact iL h
 have h:=hc s h;have C:=eQ q;have D:=eQ s;exact cC h λi A F k B p h=>ak h▸ah (bA e bz [.z (.nat (wr (c+1)).toNat),.z (.nat (d.aU.length-(wr (c+1)).toNat)),aA (M1 ab d.aU C D),bP (o3 ab A),.z (.rows (List.map ab (rC d.aU (wr (c+1)).toNat i))),.z (.nat (Nat.min (i.map ab).length (d.aU.length-(wr (c+1)).toNat))),cJ a.aU,cJ i,aA (abH ab (l:=d.aU) (x:=i) (o:=(wr (c+1)).toNat) (m:=d.aU.length-(wr (c+1)).toNat) O rfl)] (ad e [aA (Bk ab k (Na ab (l:=d.aU) (x:=i) (o:=(wr (c+1)).toNat) O)),br ab k,.z (.rows (B.map ab)),.z (.ff 22 0 (B.map ab).length),aA (str ab p),aA ((Na ab (l:=d.aU) (x:=i) (o:=(wr (c+1)).toNat) O).trans (cE ab p))] (bV e [.bu 21 [] [22]] (ae e au))))
open Go.RowKit Go.Lib in
set_option maxHeartbeats 4000000 in
set_option maxRecDepth 100000 in
theorem T4(b n c i d m s:Nat)(l vs:List Value)(w:World)(aD:i<n)(hm:0<m)(L:n+m<=c)(V:c<=9223372036854775807)(y:d≠b)
  (Q:l.length=n*2) (R:vs.length=m*2)
  (X: ∀j v,l[j]? =some v->w.cell? ⟨b,j,none⟩=some v) (q: ∀j,j<(n+m)*2->(w.cell? ⟨b,j,none⟩).isSome=true) (z: ∀j,w.frozen? ⟨b,j,none⟩=false)
  (f: ∀j v,vs[j]? =some v->w.cell? ⟨d,j,none⟩=some v) (g: ∀v∈l,v.oneCell'=true) (t: ∀v∈vs,v.oneCell'=true)
  (Y sx:TypeId) (u E:Nat) (I:w.shape? d=some (Y,u)) (M:w.shape? b=some (sx,E)) (N:E≠0) (A: ∀j,w.frozen? ⟨d,j,none⟩=false):
  Calls prog 127 #[.slice (some ⟨b,0,none⟩) n c,.int .i64 i,.slice (some ⟨d,0,none⟩) m s] w λe w'=>
   e= .returned (.slice (some ⟨b,0,none⟩) (n+m) c)/\w'=(w.drew.setCells b ((i+m)*2) (l.drop (i*2))).setCells b (i*2) vs:=by
 have hz1: ¬((m:Int)=0):=O
 have hz2: ¬((i:Int)=(n:Int)):=O
 have kI:IntKind.i64.wrap ((i:Int)+(m:Int))=(i:Int)+(m:Int):=by rw[IntKind.wrap_i64];omega
 have j':(0:Int)<=(i:Int)+(m:Int):=O
 have kb:i<=n:=O
 have IC:((i:Int)+(m:Int)).toNat=i+m:=O
 have BB: ¬(c=i+m):=O
 have xu:(i:Int)<=(n:Int)+(m:Int):=O
 have ae8: ¬(c=i):=O
 have P: ∀S T,(callFunc 189 #[.slice (some ⟨d,0,none⟩) m s,.slice (some ⟨b,(i+m)*2,none⟩) S T]).run prog w= .ok (.value (.bool false)) w:=λS T=>by
  rw[run_callFunc_extern func189 J J J (e:=Extern.SlicesOverlaps.overlaps #[62,62] #[4]) J,
   Lib.run_overlaps_apart w 62 4 95 underlying62 2 sizeOf95 ⟨d,0,none⟩ ⟨b,(i+m)*2,none⟩ m s S T y Y sx u E I M N (A 0) (A u)]
  rfl
 have B:(l.drop (i*2)).length=(n-i)*2:=by rw[eX,Q];omega
 have C:(prog.info? 95).map (·.size)=some 2:=J
 have p: ∀ty r jS,(Builtin.copy_ #[62,62] ty #[.slice (some ⟨b,(i+m)*2,none⟩) (n+m-(i+m)) r,.slice (some ⟨b,i*2,none⟩) (n+m-i) jS]).run prog w.drew= .ok (goInt ((n-i:Nat):Int)) (w.drew.setCells b ((i+m)*2) (l.drop (i*2))):=λty r jS=>
  qq w.drew 62 62 ty 95 2 b ((i+m)*2) (n+m-(i+m)) r ⟨b,i*2,none⟩ (n+m-i) jS (n-i) (l.drop (i*2)) underlying62 C (by simp only[Nat.min_def];split<;>omega) B
   (λj v o=>by rw[Addr.add_lit];exact X (i*2+j) v (by rwa [fS] at o))
   (λj o=>q _ O) (λj o=>z _) λv bI=>g v (eV bI)
 obtain⟨D,a⟩: ∃D,D=w.drew.setCells b ((i+m)*2) (l.drop (i*2)):=⟨_,rfl⟩
 have F: ∀k,k<(n+m)*2->(D.cell? ⟨b,k,none⟩).isSome=true:=λk hk=>by
  rw[a];exact B8 b (l.drop (i*2)) ((i+m)*2) w.drew (λj o=>q _ (by rw[B] at o;omega)) k (q k hk)
 have H: ∀(W:World),(∀x,W.cell? x=D.cell? x)->(∀x,W.frozen? x=D.frozen? x)-> ∀ty r,(Builtin.copy_ #[62,62] ty #[.slice (some ⟨b,i*2,none⟩) (n+m-i) r,.slice (some ⟨d,0,none⟩) m s]).run prog W= .ok (goInt m) (W.setCells b (i*2) vs):=λW K U ty r=>
  qq W 62 62 ty 95 2 b (i*2) (n+m-i) r ⟨d,0,none⟩ m s m vs underlying62 C (by simp only[Nat.min_def];split<;>omega) R
   (λj v o=>by
    rw[Addr.add_lit,dn,K,a,World.cell?_setCells_out b _ _ _ _ λh _=>bt h y];exact f j v o)
   (λj o=>by rw[K];exact F _ O) (λj o=>by rw[U,a,World.frozen?_setCells];exact z _) t
 rw[<-a] at p
 go_enter func127,Tryz.ntmps127
 go_wp2_with (simp only[P])
 go_region_law (refine Cn rfl _ _ 62 62 rfl _ _ (by simp[Act.eval,Act.put]) (by simp[Act.eval,Act.put]) (p _ _ _) ?_)
 go_wp2_with (at_builtin;refine uf _ rfl _ _ 62 62 rfl _ _ rfl rfl (H _ (λ_=>rfl) (λ_=>rfl) _ _) ?_)
 go_ret
 first|exact⟨rfl,rfl⟩|exact⟨rfl,by rw[a]⟩
open Go.RowKit Go.Lib in
set_option maxHeartbeats 4000000 in
set_option maxRecDepth 100000 in
theorem T8(b n c i y m S:Nat)(k l:List Value)(w:World)(aD:i<n)(hm:0<m)(afN:n<=c)(C:c<n+m)(D:TypeInfo)(z:Value)(Q:prog.info? 95=some D)(T:D.zero=some z)(R:D.size=2)(U:z.cells.size=2)(hle:n+m<=1000000000)(X:(n+m)*D.bytes<=140737488355328)
  (V:k.length=n*2) (f:l.length=m*2)
  (F: ∀j v,k[j]? =some v->w.cell? ⟨b,j,none⟩=some v)
  (g: ∀j v,l[j]? =some v->w.cell? ⟨y,j,none⟩=some v) (Y: ∀v∈k,v.oneCell'=true) (oL: ∀v∈l,v.oneCell'=true):
  Calls prog 127 #[.slice (some ⟨b,0,none⟩) n c,.int .i64 i,.slice (some ⟨y,0,none⟩) m S] w λe w'=>
   e= .returned (.slice (some ⟨w.heap.size,0,none⟩) (n+m) (grownCap w (n+m) c 95))/\
   w'=(((w.alloc (.cells ((k.take (i*2)).toArray++Builtin.zeroCells z.cells (n+m-i)++Builtin.zeroCells z.cells (grownCap w (n+m) c 95-(n+m))) 95)).drew.setCells w.heap.size (i*2) l).drew).setCells w.heap.size ((i+m)*2) (k.drop (i*2)):=by
 have hz1: ¬((m:Int)=0):=O
 have hz2: ¬((i:Int)=(n:Int)):=O
 have agp:(c:Int)<(n:Int)+(m:Int):=O
 have u:(prog.info? 95).map (·.size)=some 2:=by rw[Q];simp[R]
 have Ie:b<w.heap.size:=block_lt_of_cell (F 0 _ (bg O));have II:y<w.heap.size:=block_lt_of_cell (g 0 _ (bg O));have E:(n:Int)+(m:Int)-(i:Int)=((n+m-i:Nat):Int):=O
 have H:i+(n+m-i)=n+m:=O
 have A:(Builtin.firstCells D.size i (.slice (some ⟨b,0,none⟩) i c)).run prog w.drew= .ok (k.take (i*2)).toArray w.drew:=by
  rw[R];exact run_firstCells_some w.drew 2 i ⟨b,0,none⟩ i c (k.take (i*2)) (by rw[cq];omega) (λj v d=>by
   rw[Addr.add_lit,dn];rw[fL] at d;split at d
   ·exact F j v d
   cases d)
 have s: ∀ty,(Builtin.append_ #[62,3] ty #[.slice (some ⟨b,0,none⟩) i c,.int .i64 ((n:Int)+(m:Int)-(i:Int))]).run prog w=
   .ok (.slice (some ⟨w.heap.size,0,none⟩) (n+m) (grownCap w (n+m) c 95)) (w.drew.alloc (.cells ((k.take (i*2)).toArray++Builtin.zeroCells z.cells (n+m-i)++Builtin.zeroCells z.cells (grownCap w (n+m) c 95-(n+m))) 95)):=λty=>by
  have h:=Lib.run_append_grow_zeros w 62 3 ty 95 D z .i64 .i64 underlying62 underlying3 Q T (some ⟨b,0,none⟩) i c (k.take (i*2)) A (n+m-i) O O O O (by
   have:=dt D.bytes (O:n+m-i<=n+m);omega) (by rw[H];exact growslice_fits C X)
  rw[H] at h;rw[E];exact h
 obtain⟨G,P⟩: ∃G,G=grownCap w (n+m) c 95:=⟨_,rfl⟩
 obtain⟨a,p⟩: ∃a:Array Value,a=(k.take (i*2)).toArray++Builtin.zeroCells z.cells (n+m-i)++Builtin.zeroCells z.cells (G-(n+m)):=⟨_,rfl⟩
 rw[<-P] at s⊢;rw[<-p] at s⊢;have H9:(n+m)*2<=a.size:=by
  rw[p];simp[Builtin.zeroCells,U];omega
 obtain⟨q,o⟩: ∃q,q=w.drew.alloc (.cells a 95):=⟨_,rfl⟩
 rw[<-o] at s;have ey: ∀j,j<(n+m)*2->(q.cell? ⟨w.heap.size,j,none⟩).isSome=true:=λj d=>by
  rw[o,World.cell?_alloc_at (w:=w.drew) a _ w.heap.size j rfl,gY O];rfl
 have I: ∀j,q.frozen? ⟨w.heap.size,j,none⟩=false:=λj=>by rw[o];exact World.frozen?_alloc_at (w:=w.drew) a _ w.heap.size j rfl
 have H6: ∀j v,w.cell? ⟨b,j,none⟩=some v->q.cell? ⟨b,j,none⟩=some v:=λj v h=>by rw[o,World.cell?_alloc_past (w:=w.drew) _ b j Ie];exact h
 have H7: ∀j v,w.cell? ⟨y,j,none⟩=some v->q.cell? ⟨y,j,none⟩=some v:=λj v h=>by rw[o,World.cell?_alloc_past (w:=w.drew) _ y j II];exact h
 have M: ∀(W:World),(∀x,W.cell? x=q.cell? x)->(∀x,W.frozen? x=q.frozen? x)-> ∀ty K,(Builtin.copy_ #[62,62] ty #[.slice (some ⟨w.heap.size,i*2,none⟩) (n+m-i) K,.slice (some ⟨y,0,none⟩) m S]).run prog W= .ok (goInt m) (W.setCells w.heap.size (i*2) l):=λW r L ty K=>
  qq W 62 62 ty 95 2 w.heap.size (i*2) (n+m-i) K ⟨y,0,none⟩ m S m l underlying62 u (by simp only[Nat.min_def];split<;>omega) f
   (λj v d=>by rw[Addr.add_lit,dn,r];exact H7 _ v (g j v d))
   (λj d=>by rw[r];exact ey _ O) (λj d=>by rw[L];exact I _) oL
 have H3:n+m<=G:=by rw[P];exact grownCap_ge w _ _ _
 have aeU:G<=9223372036854775807:=by
  have:=grownCap_le_maxLen w (n+m) c 95 (by unfold maxLen;omega);rw[<-P] at this;unfold maxLen at this;omega
 have aeV: ¬(G=i):=O
 have aeW: ¬(G=i+m):=O
 have afa: ¬(c=i):=O
 have Ib:b≠w.heap.size:=O
 have N:(k.drop (i*2)).length=(n-i)*2:=by rw[eX,V];omega
 have B: ∀(W:World),(∀x,W.cell? x=(q.setCells w.heap.size (i*2) l).cell? x)->(∀x,W.frozen? x=(q.setCells w.heap.size (i*2) l).frozen? x)-> ∀ty K jS,(Builtin.copy_ #[62,62] ty #[.slice (some ⟨w.heap.size,(i+m)*2,none⟩) (n+m-(i+m)) K,.slice (some ⟨b,i*2,none⟩) (n-i) jS]).run prog W= .ok (goInt ((n-i:Nat):Int)) (W.setCells w.heap.size ((i+m)*2) (k.drop (i*2))):=λW r L ty K jS=>
  qq W 62 62 ty 95 2 w.heap.size ((i+m)*2) (n+m-(i+m)) K ⟨b,i*2,none⟩ (n-i) jS (n-i) (k.drop (i*2)) underlying62 u (by simp only[Nat.min_def];split<;>omega) N
   (λj v d=>by
    rw[Addr.add_lit,r,World.cell?_setCells_out _ _ _ _ _ λh _=>bt h Ib];exact H6 _ v (F (i*2+j) v (by rwa [fS] at d)))
   (λj d=>by rw[r];exact B8 w.heap.size l (i*2) q (λt eO=>ey _ (by rw[f] at eO;omega)) _ (ey _ (by rw[N] at d;omega)))
   (λj d=>by rw[L,World.frozen?_setCells];exact I _) λv bI=>Y v (eV bI)
 subst o;have H0: ∀x,((w.alloc (.cells a 95)).drew).cell? x=(w.drew.alloc (.cells a 95)).cell? x:=λx=>rfl;have H2: ∀x,((w.alloc (.cells a 95)).drew).frozen? x=(w.drew.alloc (.cells a 95)).frozen? x:=λx=>rfl;have rQ: ∀x,(((w.alloc (.cells a 95)).drew.setCells w.heap.size (i*2) l).drew).cell? x=((w.drew.alloc (.cells a 95)).setCells w.heap.size (i*2) l).cell? x:=λx=>rfl;have rR: ∀x,(((w.alloc (.cells a 95)).drew.setCells w.heap.size (i*2) l).drew).frozen? x=((w.drew.alloc (.cells a 95)).setCells w.heap.size (i*2) l).frozen? x:=λx=>rfl;have kI:IntKind.i64.wrap ((i:Int)+(m:Int))=(i:Int)+(m:Int):=by rw[IntKind.wrap_i64];omega
 have j':(0:Int)<=(i:Int)+(m:Int):=O
 have kb:i<=n:=O
 have IC:((i:Int)+(m:Int)).toNat=i+m:=O
 have xu:(i:Int)<=(n:Int):=O
 clear E H A p P H9
 go_enter func127,Tryz.ntmps127
 go_wp2_with (first
  |(at_builtin;refine Lib.wpList_append_run _ rfl _ _ _ _ rfl _ _ rfl rfl _ _ (s _) ?_)
  |(at_builtin;refine uf _ rfl _ _ 62 62 rfl _ _ rfl rfl (M _ H0 H2 _ _) ?_)
  |(at_builtin;refine uf _ rfl _ _ 62 62 rfl _ _ rfl rfl (B _ (λ_=>rfl) (λ_=>rfl) _ _ _) ?_))
 go_region_law (refine Cn rfl _ _ 62 62 rfl (.slice (some ⟨w.heap.size,(i+m)*2,none⟩) (n+m-(i+m)) (G-(i+m))) (.slice (some ⟨b,i*2,none⟩) (n-i) (c-i)) (by simp[Act.eval,Act.put]) (by simp[Act.eval,Act.put]) (B _ rQ rR 3 (G-(i+m)) (c-i)) ?_)
 go_wp2
 go_ret
 exact⟨rfl,rfl⟩
open Go.RowKit Go.Lib in
set_option maxHeartbeats 4000000 in
set_option maxRecDepth 100000 in
theorem T6(b d:Option Addr)(n c i h:Nat)(w:World)(p:i<=n)(q:n<=c)(r:c<=9223372036854775807):Calls prog 127 #[.slice b n c,.int .i64 i,.slice d 0 h] w λe k=>e= .returned (.slice b n c)/\k=w:=by
 have l:(i:Int)<=(n:Int):=O
 go_enter func127,Tryz.ntmps127
 cases b with
 |none=>
  go_wp2
  go_ret
  exact⟨rfl,rfl⟩
 |some a=>
  obtain⟨s,x,m⟩:=a;by_cases o:c=i
  ·go_wp2
   go_ret
   exact⟨rfl,rfl⟩
  go_wp2
  go_ret
  exact⟨rfl,rfl⟩
open Go.RowKit Go.Lib in
set_option maxHeartbeats 4000000 in
set_option maxRecDepth 100000 in
theorem TZ(b d:Option Addr)(n c m i:Nat)(w:World)(k:Value)(w':World)(r:0<m)(s:n<=c)(x:c<=9223372036854775807)(h:(Builtin.append_ #[62,62] 62 #[.slice b n c,.slice d m i]).run prog w= .ok k w'):
  Calls prog 127 #[.slice b n c,.int .i64 n,.slice d m i] w λe l=>e= .returned k/\l=w':=by
 have o: ¬((m:Int)=0):=O
 go_enter func127,Tryz.ntmps127
 cases b with
 |none=>
  go_wp2_with (at_builtin;refine Lib.wpList_append_run _ rfl _ _ _ _ rfl _ _ rfl rfl _ _ h ?_)
  go_ret
  exact⟨rfl,rfl⟩
 |some a=>
  obtain⟨y,z,p⟩:=a;by_cases q:c=n
  ·go_wp2_with (at_builtin;refine Lib.wpList_append_run _ rfl _ _ _ _ rfl _ _ rfl rfl _ _ h ?_)
   go_ret
   exact⟨rfl,rfl⟩
  go_wp2_with (at_builtin;refine Lib.wpList_append_run _ rfl _ _ _ _ rfl _ _ rfl rfl _ _ h ?_)
  go_ret
  exact⟨rfl,rfl⟩
theorem Wi{a:TypeInfo}(s:prog.info? 95=some a)(x:a.zero=some z)(y:a.size=2)(A:z.cells.size=2):y3 prog 127 62 95 2 a z where
 nothing:=T6
 tail:=TZ
 room:=λb n c i B m dy cs C w D F d q H e h k K L l o p j t fe u Q R W X=>T4 b n c i B m dy cs C w D F d q H e h k K L l o p j t fe u Q R W X
 grow:=λb n c i B m dy cs C w D F f d g r e h k l o p=>T8 b n c i B m dy cs C w D F f d a z s x y A g r e h k l o p
theorem Tr(G:cw)(n:Nat)(s:List Loop)(i:Int)(v:List Loop)(c d:Nat){r:List Loop}(h:uK n s i v=some r):
  cA G 127 [aE 95 c 2 aq s,aE 95 d 2 aq v] [ms 0 c 2 aq s,Y i,ms 1 d 2 aq v] (ms 0 (c+1) 2 aq r) [aE 95 (c+1) 2 aq r,aE 95 d 2 aq v]:=by
 unfold uK at h;refine jE (decide ((0:Int)<=i)) (λe=>?_) λe=>?_
 ·have h:=hb e h;exact iL h
 have h:=hc e h;refine jE (decide (i<=(s.length:Int))) (λl=>?_) λl=>?_
 ·have h:=hb l h;exact iL h
 have h:=hc l h;have x:=eQ e;have y:=eQ l;obtain⟨k,rfl⟩: ∃k:Nat,i=(k:Int):=⟨i.toNat,O⟩
 simp only[Int.toNat_natCast] at h;have a:(prog.info? 95).map (λi=>(i.zero.map λz=>z.cells.size,i.size,Nat.ble i.bytes 140000))=some (some 2,2,true):=J
 cases m:prog.info? 95 with
 |none=>rw[m] at a;cases a
 |some q=>
  rw[m] at a;simp only[Option.map_some,Option.some.injEq,Prod.mk.injEq] at a;obtain⟨b,p,w⟩:=a;cases o:q.zero with
  |none=>rw[o] at b;cases b
  |some z=>
   rw[o] at b;simp only[Option.map_some,Option.some.injEq] at b;refine Ou ⟨_,func127,J,J⟩ (Wi m o p b) underlying62 m o b p underlying95 (by decide) (eB w) aq (λ_=>rfl) s v r k c d O h
abbrev ahp:List dG:=[⟨65,2,[]⟩]
theorem S4(G:cw)(n:Nat)(c s:List Loop)(i:Int)(v:List Loop)(a b:Nat){r:List Loop}(e:(c.map aq).length=(s.map aq).length)(h:uK n s i v=some r):
  cA G 127 [aE 95 a 2 aq s,aE 95 b 2 aq v] [ms 0 a 2 aq c,Y i,ms 1 b 2 aq v] (ms 0 (a+1) 2 aq r) [aE 95 (a+1) 2 aq r,aE 95 b 2 aq v]:=by have:=Tr G n s i v a b h;show iA _ _ _ _ [V.a7 0 a 2 0 (c.map aq).length,Y i,ms 1 b 2 aq v] _ _;rw[e];exact this
theorem UC{p}{part}{loop}{k}{r}(h:C2 n p part loop k=some r):aX G 50 [V.agg (b3 p),Y part,Y loop,Y k] (V.bJ [V.agg (b3 r.1),aM r.2]):=by
 refine ba aO func50 rfl λw X a=>ad a [.z (.b (true)),.z (.b (true)),.z (.nat 20)] (ah (ai h λm C h=>jE m.2 (λD=>?_) λD=>?_))
 ·have h:=hb D h;exact ax a [aj (qm G n p part loop C D),.z (.nat 21)] (ah (ad a (dJ 14) (jC (b:=true) J (λe=>ak h▸ae a au) λe=>by cases e)))
 have h:=hc D h;refine ai h λi c h=>ax a [bo [] [21,22] (ql G n p part loop C D),.z (.nat 23)] (ah (bG h (λU=>bb [(3,Y k),(6,V.aK [T.int .i64 loop]),(8,V.ref 20 0),(10,V.ref 23 0),(11,V.ct 22 1 2 (0+Int.toNat part) 0),(44,aM U)] [(20,E.cells [bl,bl]),(21,aE 72 1 2 bm m.1.aY),(22,E.a6 b1 0 1 (m.1.parts.map an) []),(23,E.cells [ms 21 1 2 bm m.1.aY,ms 22 1 2 an m.1.parts])] [20,21,22,23]) (λmU h=>a8 h (λe h=>dc a [.eb 22 24 (0+Int.toNat part) 0 (an i)] (aH (cr an c)) (a8 h (λy h=>ai h λjm R h=>ax a ([bZ,bZ,bZ]++aJ 4 e++[br an c,aG e,aF aq i.nest,aG e,aG e,aG y,aG y,aj (fv G R),aG y,aG y]) ⟨!jm,h,S.le.trans (xh a [.dD 22 24 (an i) (m.1.parts.map an)] (a4 (Eq.refl (i.nest.map aq).length) (Eq.refl b1) (cr an c) (iM an c rfl))) (aL)⟩) λy h=>ax a ([bZ,bZ,bZ]++aJ 4 e++[br an c,aG e,aF aq i.nest,aG e,aG e]++aN 4 y) ⟨true,h,S.le.trans (xh a [.dD 22 24 (an i) (m.1.parts.map an)] (a4 (Eq.refl (i.nest.map aq).length) (Eq.refl b1) (cr an c) (iM an c rfl))) (aL)⟩)) λe h=>ax a ([bZ,bZ,bZ]++aN 7 e++dJ 4) (al h)) λmr h=>aw h (λc3 h=>ak h▸ae a au) λc3 h=>ar (ah (bH h λA d W f h=>dc a [.eb 22 24 (0+Int.toNat part) 0 (an i),.eb 24 25 (0+Int.toNat loop) 0 (aq A),.eb 24 26 (0+Int.toNat loop) 1 (aq A)] (a3 (cr an c) (cr aq d) (cr aq d)) (bA a bz [br an c,aA (bF aq d),br aq d,.z (.b true),.z (.nat 25),.z (.nat 26),aj (Ju G f)] (dc a [.dD 24 26 (aq A) (i.nest.map aq),.dD 24 25 (aq A) (i.nest.map aq),.dD 22 24 (an i) (m.1.parts.map an)] (a12 (Eq.refl (A.aD.map aC).length) (Eq.refl b1) (cr aq d) (iM aq d rfl) (Eq.refl (A.lo.map aC).length) (Eq.refl b1) (cr aq d) (iM aq d rfl) (Eq.refl (i.nest.map aq).length) (Eq.refl b1) (cr an c) (iM an c rfl)) (ah (ae a (dy (b:= !W.2.2) (λs=>?_) λs=>?_)))))))))
 ·have s:W.2.2=false:=by simpa using s
  have h:=hb s h;exact ak h▸ae a au
 have s:W.2.2=true:=by simpa using s
 have h:=hc s h;refine ar (bH h λB g pq x h=>ad a [bo [22] [] (Q1 G n m.1.parts part i c 1 loop 126 [T.int .i64 loop] (λj=>uN n j loop) (λj r h=>Tu G n j loop h) g x)] ?_);have l:=A3 x;exact dc a [.eb 22 36 (0+Int.toNat part) 0 (an B),.ed 36,.ee 22 ahp 0] (aH (cr an l)) (ah (ai h λajA t h=>ax a [aA (OI t)] (ah (ai h λajh u h=>ai h λJQ v h=>bA a bz [bo [] [27] (sa G u),bo [] [28] (sa G v),.z (.nat 29),.z (.nat 30)] (ae a (bV a [.bu 27 [] [29],.bu 28 [] [30]] (ah (ai h λSi I h=>ai h λz2 M h=>ai h λSc F h=>ai h λH o h=>bA a bz [.z (.row (an B)),aA (cr an l),bo [] [31] (uU G I),.z (.at 8),.z (.bu 31 [92] []),.z (.int 0),bo [] [32] (uU G M),.z (.at 4),.z (.bu 32 [96] []),.z (.int 0),aA (bF aq F),br aq F,.z (.rows (H.map aq)),aA (str aq o)] (ah (ai h λz3 N h=>ai h λz4 P h=>bH h λyJ K L q h=>bA a bz [.z (.row (an B)),aA (cr an l),bo [] [33] (uU G N),.z (.at 10),.z (.bu 33 [107] []),.z (.int 0),bo [] [34] (uU G P),.z (.at 7),.z (.bu 34 [110] []),.z (.int 0),.z (.int 1),.z (.nat 35),bo [36,35] [] (S4 G n B.nest H loop [(⟨[z3],[z4]⟩:Loop)] 1 1 (cE aq o) K),.z (.row (an B)),aA (cr an l)] (dc a [.Bx 22 0 36,.Dg 22 (an B) (L.map an),.ed 22,.ff 23 1 (L.map an).length,.bu 21 [] [23],.bu 22 [] [23]] (a3 (cr an l) (gv an q rfl) ((cE an x).trans (cE an q))) (ai h λqU Q h=>ak h▸ad a [aj (qe G Q)] au))))))))))))
theorem I4(G:cw)(n:Nat)(c:List az)(d:List az)(b:FuncId)(o:az->az->Option Bool)(i: ∀(p:az) (q:az) r,o p q=some r->aX G b [V.agg (cf p),V.agg (cf q)] (aM r)){r:Bool}(h:xm n c d o=some r):aX G 193 [aB aC c,aB aC d,V.fn b []] (aM r):=by
 refine ba aO func193 rfl λw X a=>ae a (ah (ad a [aF aC c,aF aC d] (aw h (λs h=>?_) λs h=>?_)))
 ·cases h;exact ae a au
 refine ar (ah (ad a [aF aC c] (bd (cj h (λx=>bN [(1,aB aC d),(2,V.fn b []),(15,aB aC c),(16,Y (c.length:Int)),(17,Y x)]) aL λe D h=>ae a (cI h (λy h=>?_) λy h=>?_)))))
 ·refine ar (bw (ai h λA k h=>ad a [aZ aC k,.z (.nat 20)] (ai h λB l h=>ad a [aZ aC l,.z (.nat 21)] (ai h λF m h=>ad a [aj (i A B _ m)] (aw h (λC h=>?_) λC h=>ar (be a (al h)))))));cases h;exact ae a au
 cases h;exact bn (ae a au)
theorem Jv(G:cw)(n:Nat)(a:az)(b:az){r:Bool}(h:nI n a b=some r):aX G 194 [V.agg (cf a),V.agg (cf b)] (aM r):=ba aO func194 rfl λw X d=>ad d [.z (.b (true)),.z (.b (true))] (bG h (λi=>bN [(4,aM i)]) (λk h=>ai h λl c h=>a8 h (λe h=>ax d ([aj (Kh G n a.aU b.aU c)]++aJ 6 e) (al h)) λe h=>ax d ([aj (Kh G n a.aU b.aU c)]++aN 6 e) (al h)) λm h=>ak h▸au)
theorem Uo(G:cw)(n:Nat)(x:Loop)(y:Loop){r:Bool}(h:x2 n x y=some r):aX G 192 [V.agg (hf x),V.agg (hf y)] (aM r):=ba aO func192 rfl λw X i=>ad i [.z (.b (true)),.z (.b (true))] (bG h (λl=>bN [(4,aM l)]) (λm h=>ai h λo d h=>a8 h (λe h=>ax i ([aj (I4 G n x.lo y.lo 194 (λa c=>nI n a c) (λa c r h=>Jv G n a c h) d)]++aJ 6 e) (al h)) λe h=>ai h λp k h=>ax i ([aj (I4 G n x.lo y.lo 194 (λa c=>nI n a c) (λa c r h=>Jv G n a c h) d)]++aN 5 e++[aj (I4 G n x.aD y.aD 194 (λa c=>nI n a c) (λa c r h=>Jv G n a c h) k),aP e]) (al h)) λq h=>ak h▸au)
theorem SI(G:cw)(n:Nat)(c:List Loop)(d:List Loop)(b:FuncId)(o:Loop->Loop->Option Bool)(i: ∀(p:Loop) (q:Loop) r,o p q=some r->aX G b [V.agg (hf p),V.agg (hf q)] (aM r)){r:Bool}(h:Jj n c d o=some r):aX G 191 [aB aq c,aB aq d,V.fn b []] (aM r):=by
 refine ba aO func191 rfl λw X a=>ae a (ah (ad a [aF aq c,aF aq d] (aw h (λs h=>?_) λs h=>?_)))
 ·cases h;exact ae a au
 refine ar (ah (ad a [aF aq c] (bd (cj h (λx=>bN [(1,aB aq d),(2,V.fn b []),(15,aB aq c),(16,Y (c.length:Int)),(17,Y x)]) aL λe D h=>ae a (cI h (λy h=>?_) λy h=>?_)))))
 ·refine ar (bw (ai h λA k h=>ad a [aZ aq k,.z (.nat 20)] (ai h λB l h=>ad a [aZ aq l,.z (.nat 21)] (ai h λF m h=>ad a [aj (i A B _ m)] (aw h (λC h=>?_) λC h=>ar (be a (al h)))))));cases h;exact ae a au
 cases h;exact bn (ae a au)
theorem Vj{a}{b}{r}(h:DU n a b=some r):aX G 128 [aB aq a,aB aq b] (aM r):=ba aO func128 rfl λw X i=>ae i (ai h λk c h=>ak h▸ad i [aj (SI G n a b 192 (λd e=>x2 n d e) (λd e r h=>Uo G n d e h) c)] au)
theorem WW{p}{q}{r}(h:zp n p q=some r):aX G 130 [aB ab p,aB ab q] (aM r):=ba aO func130 rfl λw X b=>ae b (ai h λc a h=>ak h▸ad b [aj (Ts G a)] au)
theorem JX{s}{i}{j}(m:Nat){r}(h:uL n s i j=some r):
  cA G 131 [aE 65 m 2 an s] [ms 0 m 2 an s,Y i,Y j] (ms 0 m 2 an (r.2.take r.1)) [aE 65 m 2 an r.2]:=by
 refine cK aO func131 rfl λw X y c A=>ae c (jE (decide ((0:Int)<=i)) (λo=>?_) λo=>?_)
 ·have h:=hb o h;exact iL h
 have h:=hc o h;refine jE (decide (i<=j)) (λp=>?_) λp=>?_
 ·have h:=hb p h;exact iL h
 have h:=hc p h;refine jE (decide (j<=(s.length:Int))) (λq=>?_) λq=>?_
 ·have h:=hb q h;exact iL h
 have h:=hc q h;have b:=eQ o;have d:=eQ p;have a:=eQ q;refine ad c [aF an s,aA (aeE an s b d a)] (ah (ae c (aw h (λx h=>ak h▸ad c [.z (.at 0),.z (.len 6 (List.map an (s.take s.length)).length),aA (adx an s)] dz) λx h=>?_)));have e:i<j:=by have:=of_decide_eq_false x;omega
 refine ar (ad c [aF an s] ?_);by_cases l:j<(s.length:Int)
 ·exact ak h▸ah (bA c bz [.z (.nat 0),.z (.nat i.toNat),.z (.nat j.toNat),.z (.nat (s.length-j.toNat)),.z (.rows (List.map an (mE s i j))),aA (PU an s b d a),aA (M1 an s (O:0<=j) l),aA (ad' an s b d a),aA (ad9 an s b d a),aA (ad8 an s i j)] (ad c [.z (.nat (eF s i j)),.z (.int 1),.z (.nat (eF s i j)),.z (.nat (s.length-(eF s i j))),.z (.rows (List.map an (jt s i j (⟨[],[]⟩:Part)))),aA (Eq.refl (eF s i j)),aA (PV an s (mE s i j) (k:=2) (by decide) b e a (M' s b d a) rfl),aA (aeC an s (⟨[],[]⟩:Part) b e a)] (ad c [.z (.at 0),.z (.len 6 (List.map an ((jt s i j (⟨[],[]⟩:Part)).take (eF s i j))).length),aA (PW an s (⟨[],[]⟩:Part) b e a)] dz)))
 exact ak h▸ah (bA c bz [.z (.nat 0),.z (.nat i.toNat),.z (.int 0),.z (.int 0),aA (PU an s b d a),aA (aeD an s b d a l)] (ad c [.z (.nat (i.toNat)),.z (.int 1),.z (.nat (i.toNat)),.z (.nat (s.length-(i.toNat))),.z (.rows (List.map an (jt s i j (⟨[],[]⟩:Part)))),aA (Eq.refl (i.toNat)),aA (PV an s s (k:=2) (by decide) b e a rfl (PX s a l)),aA (ad7 an s (⟨[],[]⟩:Part) b e a l)] (ad c [.z (.at 0),.z (.len 6 (List.map an ((jt s i j (⟨[],[]⟩:Part)).take (eF s i j))).length),aA ((PX s a l).trans (PW an s (⟨[],[]⟩:Part) b e a))] dz)))
theorem abT(h:av l i=some x)(k:av l (wr (i+1))=some y):0+Int.toNat (wr (i+1))≠0+Int.toNat i:=by have c:=(l9 h).1;have b:=(l9 k).1;have e:wr (i+1)=_:=IntKind.wrap_i64 (i+1);rw[e] at b⊢;omega
def Ci:List dG:=[⟨65,2,[]⟩]
theorem UJ{p}{part}{r}(h:Ds n p part=some r):aX G 51 [V.agg (b3 p),Y part] (V.bJ [V.agg (b3 r.1),aM r.2]):=by
 refine ba aO func51 rfl λw X a=>ad a [.z (.b (true)),.z (.nat 20)] (ah (ai h λi y h=>jE i.2 (λA=>?_) λA=>?_))
 ·have h:=hb A h;exact ax a [aj (qm G n p part (-1) y A),.z (.nat 21)] (ah (ah (bA a bz (dJ 21) (jC (b:=true) J (λm=>ak h▸ae a au) λm=>by cases m))))
 have h:=hc A h;refine ai h λd c h=>ax a [bo [] [21,22] (ql G n p part (-1) y A),.z (.nat 23)] (dc a [.eb 22 24 (0+Int.toNat part) 1 (an d),.ed 24,.ee 22 Ci 0] (aH (cr an c)) (ah (bG h (λB=>bb [(1,Y part),(2,V.aK (dQ p)),(4,V.ref 20 0),(6,V.ref 23 0),(7,V.ct 22 1 2 (0+Int.toNat part) 0),(46,aM B)] [(20,E.cells [bl,bl]),(21,aE 72 1 2 bm i.1.aY),(22,E.a6 Ci 0 1 (i.1.parts.map an) [((0+Int.toNat part),1,ms 24 1 9 bq d.body)]),(23,E.cells [ms 21 1 2 bm i.1.aY,ms 22 1 2 an i.1.parts]),(24,aE 126 1 9 bq d.body)] [20,21,22,23,24]) (λmU h=>a8 h (λm h=>bH h λjm j mr u h=>bA a bz (ec 5++[aF an p.parts,bZ,bZ]++aJ 4 m++[br an c]++aJ 5 m++[aZ an j]++aJ 3 m++[aj (Vj G u),aG m,aG m]) (al h)) λm h=>bA a bz (ec 5++[aF an p.parts,bZ,bZ]++aN 14 m) (al h)) λsT h=>aw h (λc3 h=>ak h▸ae a au) λc3 h=>ar (ah (ai h λe C h=>a8 h (λI h=>ax a [.z (.v (V.bJ [V.t T.gF,aM e.2])),aA (vv I (l1 G C))] (ah (ah (iL h)))) λI h=>ax a [.z (.v (V.bJ [V.aK [T.ay (List.map bm (((e.1.getD default).program).aY)),T.ay (List.map an (((e.1.getD default).program).parts)),T.ay (List.map bL ((e.1.getD default).list)),T.ay (List.map (aS ab) ((e.1.getD default).reads)),T.ay (List.map ab ((e.1.getD default).db))],aM e.2])),aA (vw I (l1 G C))] (ah (ai h λs M h=>ad a [bo [] [25] (Jm G M),aF cQ s] (bd (cj h (λB=>bb [(1,Y part),(4,V.ref 20 0),(6,V.ref 23 0),(7,V.ct 22 1 2 (0+Int.toNat part) 0),(9,V.aK [T.ay (List.map bm (((e.1.getD default).program).aY)),T.ay (List.map an (((e.1.getD default).program).parts)),T.ay (List.map bL ((e.1.getD default).list)),T.ay (List.map (aS ab) ((e.1.getD default).reads)),T.ay (List.map ab ((e.1.getD default).db))]),(54,ms 25 1 3 cQ s),(55,Y (s.length:Int)),(56,Y B)] [(20,E.cells [bl,bl]),(21,aE 72 1 2 bm i.1.aY),(22,E.a6 Ci 0 1 (i.1.parts.map an) [((0+Int.toNat part),1,ms 24 1 9 bq d.body)]),(23,E.cells [ms 21 1 2 bm i.1.aY,ms 22 1 2 an i.1.parts]),(24,aE 126 1 9 bq d.body),(25,aE 118 1 3 cQ s)] [20,21,22,23,24,25]) aL λW kq h=>ae a (cI h (λc5 h=>ar (bw (ai h λx o h=>ad a [aA (bF cQ o),br cQ o,.z (.nat 26)] (ah (bH h λN D P F h=>bA a bz [aZ bL D,aZ bL F,.z (.nat 27),.z (.nat 28)] (bG h (λB=>bb [(1,Y part),(4,V.ref 20 0),(6,V.ref 23 0),(7,V.ct 22 1 2 (0+Int.toNat part) 0),(9,V.aK [T.ay (List.map bm (((e.1.getD default).program).aY)),T.ay (List.map an (((e.1.getD default).program).parts)),T.ay (List.map bL ((e.1.getD default).list)),T.ay (List.map (aS ab) ((e.1.getD default).reads)),T.ay (List.map ab ((e.1.getD default).db))]),(54,ms 25 1 3 cQ s),(55,Y (s.length:Int)),(56,Y kq),(93,aM B)] [(20,E.cells [bl,bl]),(21,aE 72 1 2 bm i.1.aY),(22,E.a6 Ci 0 1 (i.1.parts.map an) [((0+Int.toNat part),1,ms 24 1 9 bq d.body)]),(23,E.cells [ms 21 1 2 bm i.1.aY,ms 22 1 2 an i.1.parts]),(24,aE 126 1 9 bq d.body),(25,aE 118 1 3 cQ s),(26,E.cells [Y x.ew,Y x.eA,Y x.kinds]),(27,E.cells (jk N)),(28,E.cells (jk P))] [20,21,22,23,24,25,26,27,28]) (λaix h=>a8 h (λf h=>ax a (aJ 6 f++ec 6) (al h)) λf h=>a8 h (λg h=>ax a (aN 6 f++aJ 6 g) (al h)) λg h=>ai h λyK H h=>ax a (aN 6 f++aN 5 g++[aj (WW G H),aP g]) (al h)) λvB h=>aw h (λky h=>ak h▸ae a au) λky h=>ar (be a (al h)))))))) λc5 h=>bn (ah (cC h λS k oh K L q h=>bH h λl Q qW R h=>?_))))))))))));have U:0+Int.toNat (wr (part+1))≠0+Int.toNat part:=abT c k;exact ak h▸bA a bz [br an c,.z (.nat 0),aA (bF an k),br an k,aA U,bP (b8 bq K),bK 9 gn d.body,bK 9 gn S.body,br an c] (dc a [.Bx 22 0 24,.Dg 22 (an d) (L.map an),.ed 22,.ff 23 1 (L.map an).length] (a3 (cr an c) (gv an q rfl) (cE an q)) (ad a [bo [22] [] (JX G 1 Q),.z (.cut 22 l.1 (List.map an (l.2.take l.1))),aA (PE an l.2 l.1)] (bV a [.bu 21 [] [23],.bu 22 [] [23]] (ad a [aj (qe G R)] au))))
theorem TH{s}{r}(h:JS n s=some r):cA G 133 [] [aB bq s] (ms 0 1 9 bq r) [aE 126 1 9 bq r]:=cK aO func133 rfl λw X e a k=>ae a (ah (ah (a8 h (λd h=>ax a [.z (.b false),aA (ahq bq d)] (jC (b:=false) J (λi=>bt (i.symm.trans (Eq.refl false)) (by decide)) λ_=>(ar (ai h λl c h=>ak h▸ad a [.z (.nat 20),bP (b8 bq c),bK 9 gn [],bK 9 gn s] (dP a 2 20))))) λd h=>iL h)))
open Go.RowKit Go.Lib in
set_option maxHeartbeats 4000000 in
set_option maxRecDepth 100000 in
theorem T3(b n c i d m s:Nat)(l vs:List Value)(w:World)(aD:i<n)(hm:0<m)(L:n+m<=c)(V:c<=9223372036854775807)(y:d≠b)
  (Q:l.length=n*2) (R:vs.length=m*2)
  (X: ∀j v,l[j]? =some v->w.cell? ⟨b,j,none⟩=some v) (q: ∀j,j<(n+m)*2->(w.cell? ⟨b,j,none⟩).isSome=true) (z: ∀j,w.frozen? ⟨b,j,none⟩=false)
  (f: ∀j v,vs[j]? =some v->w.cell? ⟨d,j,none⟩=some v) (g: ∀v∈l,v.oneCell'=true) (t: ∀v∈vs,v.oneCell'=true)
  (Y sx:TypeId) (u E:Nat) (I:w.shape? d=some (Y,u)) (M:w.shape? b=some (sx,E)) (N:E≠0) (A: ∀j,w.frozen? ⟨d,j,none⟩=false):
  Calls prog 134 #[.slice (some ⟨b,0,none⟩) n c,.int .i64 i,.slice (some ⟨d,0,none⟩) m s] w λe w'=>
   e= .returned (.slice (some ⟨b,0,none⟩) (n+m) c)/\w'=(w.drew.setCells b ((i+m)*2) (l.drop (i*2))).setCells b (i*2) vs:=by
 have hz1: ¬((m:Int)=0):=O
 have hz2: ¬((i:Int)=(n:Int)):=O
 have kI:IntKind.i64.wrap ((i:Int)+(m:Int))=(i:Int)+(m:Int):=by rw[IntKind.wrap_i64];omega
 have j':(0:Int)<=(i:Int)+(m:Int):=O
 have kb:i<=n:=O
 have IC:((i:Int)+(m:Int)).toNat=i+m:=O
 have BB: ¬(c=i+m):=O
 have xu:(i:Int)<=(n:Int)+(m:Int):=O
 have ae8: ¬(c=i):=O
 have P: ∀S T,(callFunc 198 #[.slice (some ⟨d,0,none⟩) m s,.slice (some ⟨b,(i+m)*2,none⟩) S T]).run prog w= .ok (.value (.bool false)) w:=λS T=>by
  rw[run_callFunc_extern func198 J J J (e:=Extern.SlicesOverlaps.overlaps #[32,32] #[4]) J,
   Lib.run_overlaps_apart w 32 4 65 underlying32 2 sizeOf65 ⟨d,0,none⟩ ⟨b,(i+m)*2,none⟩ m s S T y Y sx u E I M N (A 0) (A u)]
  rfl
 have B:(l.drop (i*2)).length=(n-i)*2:=by rw[eX,Q];omega
 have C:(prog.info? 65).map (·.size)=some 2:=J
 have p: ∀ty r jS,(Builtin.copy_ #[32,32] ty #[.slice (some ⟨b,(i+m)*2,none⟩) (n+m-(i+m)) r,.slice (some ⟨b,i*2,none⟩) (n+m-i) jS]).run prog w.drew= .ok (goInt ((n-i:Nat):Int)) (w.drew.setCells b ((i+m)*2) (l.drop (i*2))):=λty r jS=>
  qq w.drew 32 32 ty 65 2 b ((i+m)*2) (n+m-(i+m)) r ⟨b,i*2,none⟩ (n+m-i) jS (n-i) (l.drop (i*2)) underlying32 C (by simp only[Nat.min_def];split<;>omega) B
   (λj v o=>by rw[Addr.add_lit];exact X (i*2+j) v (by rwa [fS] at o))
   (λj o=>q _ O) (λj o=>z _) λv bI=>g v (eV bI)
 obtain⟨D,a⟩: ∃D,D=w.drew.setCells b ((i+m)*2) (l.drop (i*2)):=⟨_,rfl⟩
 have F: ∀k,k<(n+m)*2->(D.cell? ⟨b,k,none⟩).isSome=true:=λk hk=>by
  rw[a];exact B8 b (l.drop (i*2)) ((i+m)*2) w.drew (λj o=>q _ (by rw[B] at o;omega)) k (q k hk)
 have H: ∀(W:World),(∀x,W.cell? x=D.cell? x)->(∀x,W.frozen? x=D.frozen? x)-> ∀ty r,(Builtin.copy_ #[32,32] ty #[.slice (some ⟨b,i*2,none⟩) (n+m-i) r,.slice (some ⟨d,0,none⟩) m s]).run prog W= .ok (goInt m) (W.setCells b (i*2) vs):=λW K U ty r=>
  qq W 32 32 ty 65 2 b (i*2) (n+m-i) r ⟨d,0,none⟩ m s m vs underlying32 C (by simp only[Nat.min_def];split<;>omega) R
   (λj v o=>by
    rw[Addr.add_lit,dn,K,a,World.cell?_setCells_out b _ _ _ _ λh _=>bt h y];exact f j v o)
   (λj o=>by rw[K];exact F _ O) (λj o=>by rw[U,a,World.frozen?_setCells];exact z _) t
 rw[<-a] at p
 go_enter func134,Tryz.ntmps134
 go_wp2_with (simp only[P])
 go_region_law (refine Cn rfl _ _ 32 32 rfl _ _ (by simp[Act.eval,Act.put]) (by simp[Act.eval,Act.put]) (p _ _ _) ?_)
 go_wp2_with (at_builtin;refine uf _ rfl _ _ 32 32 rfl _ _ rfl rfl (H _ (λ_=>rfl) (λ_=>rfl) _ _) ?_)
 go_ret
 first|exact⟨rfl,rfl⟩|exact⟨rfl,by rw[a]⟩
open Go.RowKit Go.Lib in
set_option maxHeartbeats 4000000 in
set_option maxRecDepth 100000 in
theorem T7(b n c i y m S:Nat)(k l:List Value)(w:World)(aD:i<n)(hm:0<m)(afN:n<=c)(C:c<n+m)(D:TypeInfo)(z:Value)(Q:prog.info? 65=some D)(T:D.zero=some z)(R:D.size=2)(U:z.cells.size=2)(hle:n+m<=1000000000)(X:(n+m)*D.bytes<=140737488355328)
  (V:k.length=n*2) (f:l.length=m*2)
  (F: ∀j v,k[j]? =some v->w.cell? ⟨b,j,none⟩=some v)
  (g: ∀j v,l[j]? =some v->w.cell? ⟨y,j,none⟩=some v) (Y: ∀v∈k,v.oneCell'=true) (oL: ∀v∈l,v.oneCell'=true):
  Calls prog 134 #[.slice (some ⟨b,0,none⟩) n c,.int .i64 i,.slice (some ⟨y,0,none⟩) m S] w λe w'=>
   e= .returned (.slice (some ⟨w.heap.size,0,none⟩) (n+m) (grownCap w (n+m) c 65))/\
   w'=(((w.alloc (.cells ((k.take (i*2)).toArray++Builtin.zeroCells z.cells (n+m-i)++Builtin.zeroCells z.cells (grownCap w (n+m) c 65-(n+m))) 65)).drew.setCells w.heap.size (i*2) l).drew).setCells w.heap.size ((i+m)*2) (k.drop (i*2)):=by
 have hz1: ¬((m:Int)=0):=O
 have hz2: ¬((i:Int)=(n:Int)):=O
 have agp:(c:Int)<(n:Int)+(m:Int):=O
 have u:(prog.info? 65).map (·.size)=some 2:=by rw[Q];simp[R]
 have Ie:b<w.heap.size:=block_lt_of_cell (F 0 _ (bg O));have II:y<w.heap.size:=block_lt_of_cell (g 0 _ (bg O));have E:(n:Int)+(m:Int)-(i:Int)=((n+m-i:Nat):Int):=O
 have H:i+(n+m-i)=n+m:=O
 have A:(Builtin.firstCells D.size i (.slice (some ⟨b,0,none⟩) i c)).run prog w.drew= .ok (k.take (i*2)).toArray w.drew:=by
  rw[R];exact run_firstCells_some w.drew 2 i ⟨b,0,none⟩ i c (k.take (i*2)) (by rw[cq];omega) (λj v d=>by
   rw[Addr.add_lit,dn];rw[fL] at d;split at d
   ·exact F j v d
   cases d)
 have s: ∀ty,(Builtin.append_ #[32,3] ty #[.slice (some ⟨b,0,none⟩) i c,.int .i64 ((n:Int)+(m:Int)-(i:Int))]).run prog w=
   .ok (.slice (some ⟨w.heap.size,0,none⟩) (n+m) (grownCap w (n+m) c 65)) (w.drew.alloc (.cells ((k.take (i*2)).toArray++Builtin.zeroCells z.cells (n+m-i)++Builtin.zeroCells z.cells (grownCap w (n+m) c 65-(n+m))) 65)):=λty=>by
  have h:=Lib.run_append_grow_zeros w 32 3 ty 65 D z .i64 .i64 underlying32 underlying3 Q T (some ⟨b,0,none⟩) i c (k.take (i*2)) A (n+m-i) O O O O (by
   have:=dt D.bytes (O:n+m-i<=n+m);omega) (by rw[H];exact growslice_fits C X)
  rw[H] at h;rw[E];exact h
 obtain⟨G,P⟩: ∃G,G=grownCap w (n+m) c 65:=⟨_,rfl⟩
 obtain⟨a,p⟩: ∃a:Array Value,a=(k.take (i*2)).toArray++Builtin.zeroCells z.cells (n+m-i)++Builtin.zeroCells z.cells (G-(n+m)):=⟨_,rfl⟩
 rw[<-P] at s⊢;rw[<-p] at s⊢;have H9:(n+m)*2<=a.size:=by
  rw[p];simp[Builtin.zeroCells,U];omega
 obtain⟨q,o⟩: ∃q,q=w.drew.alloc (.cells a 65):=⟨_,rfl⟩
 rw[<-o] at s;have ey: ∀j,j<(n+m)*2->(q.cell? ⟨w.heap.size,j,none⟩).isSome=true:=λj d=>by
  rw[o,World.cell?_alloc_at (w:=w.drew) a _ w.heap.size j rfl,gY O];rfl
 have I: ∀j,q.frozen? ⟨w.heap.size,j,none⟩=false:=λj=>by rw[o];exact World.frozen?_alloc_at (w:=w.drew) a _ w.heap.size j rfl
 have H6: ∀j v,w.cell? ⟨b,j,none⟩=some v->q.cell? ⟨b,j,none⟩=some v:=λj v h=>by rw[o,World.cell?_alloc_past (w:=w.drew) _ b j Ie];exact h
 have H7: ∀j v,w.cell? ⟨y,j,none⟩=some v->q.cell? ⟨y,j,none⟩=some v:=λj v h=>by rw[o,World.cell?_alloc_past (w:=w.drew) _ y j II];exact h
 have M: ∀(W:World),(∀x,W.cell? x=q.cell? x)->(∀x,W.frozen? x=q.frozen? x)-> ∀ty K,(Builtin.copy_ #[32,32] ty #[.slice (some ⟨w.heap.size,i*2,none⟩) (n+m-i) K,.slice (some ⟨y,0,none⟩) m S]).run prog W= .ok (goInt m) (W.setCells w.heap.size (i*2) l):=λW r L ty K=>
  qq W 32 32 ty 65 2 w.heap.size (i*2) (n+m-i) K ⟨y,0,none⟩ m S m l underlying32 u (by simp only[Nat.min_def];split<;>omega) f
   (λj v d=>by rw[Addr.add_lit,dn,r];exact H7 _ v (g j v d))
   (λj d=>by rw[r];exact ey _ O) (λj d=>by rw[L];exact I _) oL
 have H3:n+m<=G:=by rw[P];exact grownCap_ge w _ _ _
 have aeU:G<=9223372036854775807:=by
  have:=grownCap_le_maxLen w (n+m) c 65 (by unfold maxLen;omega);rw[<-P] at this;unfold maxLen at this;omega
 have aeV: ¬(G=i):=O
 have aeW: ¬(G=i+m):=O
 have afa: ¬(c=i):=O
 have Ib:b≠w.heap.size:=O
 have N:(k.drop (i*2)).length=(n-i)*2:=by rw[eX,V];omega
 have B: ∀(W:World),(∀x,W.cell? x=(q.setCells w.heap.size (i*2) l).cell? x)->(∀x,W.frozen? x=(q.setCells w.heap.size (i*2) l).frozen? x)-> ∀ty K jS,(Builtin.copy_ #[32,32] ty #[.slice (some ⟨w.heap.size,(i+m)*2,none⟩) (n+m-(i+m)) K,.slice (some ⟨b,i*2,none⟩) (n-i) jS]).run prog W= .ok (goInt ((n-i:Nat):Int)) (W.setCells w.heap.size ((i+m)*2) (k.drop (i*2))):=λW r L ty K jS=>
  qq W 32 32 ty 65 2 w.heap.size ((i+m)*2) (n+m-(i+m)) K ⟨b,i*2,none⟩ (n-i) jS (n-i) (k.drop (i*2)) underlying32 u (by simp only[Nat.min_def];split<;>omega) N
   (λj v d=>by
    rw[Addr.add_lit,r,World.cell?_setCells_out _ _ _ _ _ λh _=>bt h Ib];exact H6 _ v (F (i*2+j) v (by rwa [fS] at d)))
   (λj d=>by rw[r];exact B8 w.heap.size l (i*2) q (λt eO=>ey _ (by rw[f] at eO;omega)) _ (ey _ (by rw[N] at d;omega)))
   (λj d=>by rw[L,World.frozen?_setCells];exact I _) λv bI=>Y v (eV bI)
 subst o;have H0: ∀x,((w.alloc (.cells a 65)).drew).cell? x=(w.drew.alloc (.cells a 65)).cell? x:=λx=>rfl;have H2: ∀x,((w.alloc (.cells a 65)).drew).frozen? x=(w.drew.alloc (.cells a 65)).frozen? x:=λx=>rfl;have rQ: ∀x,(((w.alloc (.cells a 65)).drew.setCells w.heap.size (i*2) l).drew).cell? x=((w.drew.alloc (.cells a 65)).setCells w.heap.size (i*2) l).cell? x:=λx=>rfl;have rR: ∀x,(((w.alloc (.cells a 65)).drew.setCells w.heap.size (i*2) l).drew).frozen? x=((w.drew.alloc (.cells a 65)).setCells w.heap.size (i*2) l).frozen? x:=λx=>rfl;have kI:IntKind.i64.wrap ((i:Int)+(m:Int))=(i:Int)+(m:Int):=by rw[IntKind.wrap_i64];omega
 have j':(0:Int)<=(i:Int)+(m:Int):=O
 have kb:i<=n:=O
 have IC:((i:Int)+(m:Int)).toNat=i+m:=O
 have xu:(i:Int)<=(n:Int):=O
 clear E H A p P H9
 go_enter func134,Tryz.ntmps134
 go_wp2_with (first
  |(at_builtin;refine Lib.wpList_append_run _ rfl _ _ _ _ rfl _ _ rfl rfl _ _ (s _) ?_)
  |(at_builtin;refine uf _ rfl _ _ 32 32 rfl _ _ rfl rfl (M _ H0 H2 _ _) ?_)
  |(at_builtin;refine uf _ rfl _ _ 32 32 rfl _ _ rfl rfl (B _ (λ_=>rfl) (λ_=>rfl) _ _ _) ?_))
 go_region_law (refine Cn rfl _ _ 32 32 rfl (.slice (some ⟨w.heap.size,(i+m)*2,none⟩) (n+m-(i+m)) (G-(i+m))) (.slice (some ⟨b,i*2,none⟩) (n-i) (c-i)) (by simp[Act.eval,Act.put]) (by simp[Act.eval,Act.put]) (B _ rQ rR 3 (G-(i+m)) (c-i)) ?_)
 go_wp2
 go_ret
 exact⟨rfl,rfl⟩
open Go.RowKit Go.Lib in
set_option maxHeartbeats 4000000 in
set_option maxRecDepth 100000 in
theorem T5(b d:Option Addr)(n c i h:Nat)(w:World)(p:i<=n)(q:n<=c)(r:c<=9223372036854775807):Calls prog 134 #[.slice b n c,.int .i64 i,.slice d 0 h] w λe k=>e= .returned (.slice b n c)/\k=w:=by
 have l:(i:Int)<=(n:Int):=O
 go_enter func134,Tryz.ntmps134
 cases b with
 |none=>
  go_wp2
  go_ret
  exact⟨rfl,rfl⟩
 |some a=>
  obtain⟨s,x,m⟩:=a;by_cases o:c=i
  ·go_wp2
   go_ret
   exact⟨rfl,rfl⟩
  go_wp2
  go_ret
  exact⟨rfl,rfl⟩
open Go.RowKit Go.Lib in
set_option maxHeartbeats 4000000 in
set_option maxRecDepth 100000 in
theorem TY(b d:Option Addr)(n c m i:Nat)(w:World)(k:Value)(w':World)(r:0<m)(s:n<=c)(x:c<=9223372036854775807)(h:(Builtin.append_ #[32,32] 32 #[.slice b n c,.slice d m i]).run prog w= .ok k w'):
  Calls prog 134 #[.slice b n c,.int .i64 n,.slice d m i] w λe l=>e= .returned k/\l=w':=by
 have o: ¬((m:Int)=0):=O
 go_enter func134,Tryz.ntmps134
 cases b with
 |none=>
  go_wp2_with (at_builtin;refine Lib.wpList_append_run _ rfl _ _ _ _ rfl _ _ rfl rfl _ _ h ?_)
  go_ret
  exact⟨rfl,rfl⟩
 |some a=>
  obtain⟨y,z,p⟩:=a;by_cases q:c=n
  ·go_wp2_with (at_builtin;refine Lib.wpList_append_run _ rfl _ _ _ _ rfl _ _ rfl rfl _ _ h ?_)
   go_ret
   exact⟨rfl,rfl⟩
  go_wp2_with (at_builtin;refine Lib.wpList_append_run _ rfl _ _ _ _ rfl _ _ rfl rfl _ _ h ?_)
  go_ret
  exact⟨rfl,rfl⟩
theorem Wh{a:TypeInfo}(s:prog.info? 65=some a)(x:a.zero=some z)(y:a.size=2)(A:z.cells.size=2):y3 prog 134 32 65 2 a z where
 nothing:=T5
 tail:=TY
 room:=λb n c i B m dy cs C w D F d q H e h k K L l o p j t fe u Q R W X=>T3 b n c i B m dy cs C w D F d q H e h k K L l o p j t fe u Q R W X
 grow:=λb n c i B m dy cs C w D F f d g r e h k l o p=>T7 b n c i B m dy cs C w D F f d a z s x y A g r e h k l o p
theorem JW(G:cw)(n:Nat)(s:List Part)(i:Int)(v:List Part)(c d:Nat){r:List Part}(h:uJ n s i v=some r):
  cA G 134 [aE 65 c 2 an s,aE 65 d 2 an v] [ms 0 c 2 an s,Y i,ms 1 d 2 an v] (ms 0 (c+1) 2 an r) [aE 65 (c+1) 2 an r,aE 65 d 2 an v]:=by
 unfold uJ at h;refine jE (decide ((0:Int)<=i)) (λe=>?_) λe=>?_
 ·have h:=hb e h;exact iL h
 have h:=hc e h;refine jE (decide (i<=(s.length:Int))) (λl=>?_) λl=>?_
 ·have h:=hb l h;exact iL h
 have h:=hc l h;have x:=eQ e;have y:=eQ l;obtain⟨k,rfl⟩: ∃k:Nat,i=(k:Int):=⟨i.toNat,O⟩
 simp only[Int.toNat_natCast] at h;have a:(prog.info? 65).map (λi=>(i.zero.map λz=>z.cells.size,i.size,Nat.ble i.bytes 140000))=some (some 2,2,true):=J
 cases m:prog.info? 65 with
 |none=>rw[m] at a;cases a
 |some q=>
  rw[m] at a;simp only[Option.map_some,Option.some.injEq,Prod.mk.injEq] at a;obtain⟨b,p,w⟩:=a;cases o:q.zero with
  |none=>rw[o] at b;cases b
  |some z=>
   rw[o] at b;simp only[Option.map_some,Option.some.injEq] at b;refine Ou ⟨_,func134,J,J⟩ (Wh m o p b) underlying32 m o b p underlying65 (by decide) (eB w) an (λ_=>rfl) s v r k c d O h
theorem SM{p}{part}{c}{r}(h:Cb n p part c=some r):aX G 52 [V.agg (b3 p),Y part,Y c] (V.bJ [V.agg (b3 r.1),aM r.2]):=by
 refine ba aO func52 rfl λw X a=>ad a [.z (.b (true)),.z (.nat 20)] (ah (ai h λi q h=>jE i.2 (λs=>?_) λs=>?_))
 ·have h:=hb s h;exact ax a [aj (qm G n p part (-1) q s),.z (.nat 21)] (ah (ad a (dJ 10) (jC (b:=true) J (λW=>ak h▸ae a au) λW=>by cases W)))
 have h:=hc s h;exact ai h λl d h=>ax a [bo [] [21,22] (ql G n p part (-1) q s),.z (.nat 23)] (bV a [.ed 22] (ah (bG h (λx=>bb [(1,Y part),(2,Y c),(3,V.aK (dQ p)),(6,V.ref 20 0),(8,V.ref 23 0),(9,V.ct 22 1 2 (0+Int.toNat part) 0),(37,aM x)] [(20,E.cells [bl,bl]),(21,aE 72 1 2 bm i.1.aY),(22,aE 65 1 2 an i.1.parts),(23,E.cells [ms 21 1 2 bm i.1.aY,ms 22 1 2 an i.1.parts])] [20,21,22,23]) (λmU h=>ai h λjm j h=>ax a (ec 5++[br an d,bZ,aF bq l.body,bZ,bZ,aj (fv G j),bZ,bZ]) (al h)) λmr h=>aw h (λW h=>ak h▸ae a au) λW h=>ar (ah (ai h λe y h=>a8 h (λu h=>ax a [.z (.v (V.bJ [V.t T.gF,aM e.2])),aA (vv u (l1 G y))] (ah (ah (iL h)))) λu h=>ax a [.z (.v (V.bJ [V.aK [T.ay (List.map bm (((e.1.getD default).program).aY)),T.ay (List.map an (((e.1.getD default).program).parts)),T.ay (List.map bL ((e.1.getD default).list)),T.ay (List.map (aS ab) ((e.1.getD default).reads)),T.ay (List.map ab ((e.1.getD default).db))],aM e.2])),aA (vw u (l1 G y))] (ah (ai h λm I h=>ad a [bo [] [24] (Jm G I),aF cQ m] (bd (cj h (λx=>bb [(1,Y part),(2,Y c),(6,V.ref 20 0),(8,V.ref 23 0),(9,V.ct 22 1 2 (0+Int.toNat part) 0),(11,V.aK [T.ay (List.map bm (((e.1.getD default).program).aY)),T.ay (List.map an (((e.1.getD default).program).parts)),T.ay (List.map bL ((e.1.getD default).list)),T.ay (List.map (aS ab) ((e.1.getD default).reads)),T.ay (List.map ab ((e.1.getD default).db))]),(45,ms 24 1 3 cQ m),(46,Y (m.length:Int)),(47,Y x)] [(20,E.cells [bl,bl]),(21,aE 72 1 2 bm i.1.aY),(22,aE 65 1 2 an i.1.parts),(23,E.cells [ms 21 1 2 bm i.1.aY,ms 22 1 2 an i.1.parts]),(24,aE 118 1 3 cQ m)] [20,21,22,23,24]) aL λf nk h=>ae a (cI h (λc4 h=>ar (bw (ai h λM A h=>ad a [aA (bF cQ A),br cQ A,.z (.nat 25)] (ah (bH h λN B P C h=>bA a bz [aZ bL B,aZ bL C,.z (.nat 26),.z (.nat 27)] (bG h (λx=>bb [(1,Y part),(2,Y c),(6,V.ref 20 0),(8,V.ref 23 0),(9,V.ct 22 1 2 (0+Int.toNat part) 0),(11,V.aK [T.ay (List.map bm (((e.1.getD default).program).aY)),T.ay (List.map an (((e.1.getD default).program).parts)),T.ay (List.map bL ((e.1.getD default).list)),T.ay (List.map (aS ab) ((e.1.getD default).reads)),T.ay (List.map ab ((e.1.getD default).db))]),(45,ms 24 1 3 cQ m),(46,Y (m.length:Int)),(47,Y nk),(88,aM x)] [(20,E.cells [bl,bl]),(21,aE 72 1 2 bm i.1.aY),(22,aE 65 1 2 an i.1.parts),(23,E.cells [ms 21 1 2 bm i.1.aY,ms 22 1 2 an i.1.parts]),(24,aE 118 1 3 cQ m),(25,E.cells [Y M.ew,Y M.eA,Y M.kinds]),(26,E.cells (jk N)),(27,E.cells (jk P))] [20,21,22,23,24,25,26,27]) (λagC h=>a8 h (λD h=>ax a (aJ 5 D++ec 10) (al h)) λD h=>a8 h (λg h=>ax a (aN 5 D++aJ 5 g++ec 5) (al h)) λg h=>a8 h (λS h=>ax a (aN 5 D++aN 5 g++aJ 5 S) (al h)) λS h=>ax a (aN 5 D++aN 5 g++aN 5 S) (al h)) λqU h=>aw h (λky h=>ak h▸ae a au) λky h=>ar (be a (al h)))))))) λc4 h=>bn (ah (cC h λU F vB H Dz K h=>bA a bz [br an d,bo [] [25] (K5 G F),br an d,bP (o3 bq H),bK 9 gn l.body,bo [] [26] (TH G K),.z (.nat 27)] (bV a [.bu 25 [] [27],.bu 26 [] [27]] (bH h λvC L o k h=>ad a [br an d,bP (o6 bq L),bK 9 gn l.body,br an d,.z (.rows (o.map an)),.z (.ff 23 1 (o.map an).length),aA (str an k),aA (cE an k)] (bH h λsP Q qW R h=>ak h▸ad a [.z (.int 1),.z (.nat 28),bo [22,28] [] (JW G n o (wr (part+1)) [(⟨U,Dz⟩:Part)] 1 1 Q)] (bV a [.bu 21 [] [23],.bu 22 [] [23]] (ad a [aj (qe G R)] au)))))))))))))))))
theorem Sf{a}{r}(h:qc n a=some r):cA G 197 [aE 101 1 2 aC a] [ms 0 1 2 aC a] (ms 1 1 2 aC r) [aE 101 1 2 aC a,aE 101 1 2 aC r]:=by refine cK aO func197 rfl λw X m b B=>ae b (ae b (ah (ad b [aF aC a] (bd (bV b [.grow 3 20 101] (cg h (λe l=>bb [(3,ms 20 l 2 aC e.1),(6,ms 0 1 2 aC a),(7,Y (a.length:Int)),(8,Y e.2)] [(0,aE 101 1 2 aC a),(20,aE 101 l 2 aC e.1)] [0,20]) 1 (aL) ?_))))));rintro d ⟨o,p⟩ q h;exact ae b (cI h (λs h=>ar (bw (ai h λx c h=>ad b [aA (bF aC c),br aC c,.z (.nat 21)] (bH h λy i A k h=>ax b [aj (JI G n x i),.z (.int 0),bP (b8 aC k),bK 2 gm o,bK 2 gm [y]] (be b ⟨(A,wr (p+1)),(q+1),h,aL⟩))))) λs h=>ak h▸bn (ae b (bV b [.dR 20 1 [2] []] dz)))
theorem Ux{nest}{r}(h:sn n nest=some r):cA G 132 [E.a6 b1 1 1 (nest.map aq) []] [ms 0 1 2 aq nest] (ms 1 1 2 aq r) [E.a6 b1 1 1 (nest.map aq) [],E.a6 b1 1 1 (r.map aq) []]:=by refine cK aO func132 rfl λw X x b D=>ae b (ae b (ah (ad b [aF aq nest] (bd (bV b [.grow 3 20 95,.ee 20 b1 1] (cg h (λl s=>bb [(3,ms 20 s 2 aq l.1),(6,ms 0 1 2 aq nest),(7,Y (nest.length:Int)),(8,Y l.2)] [(0,E.a6 b1 1 1 (nest.map aq) []),(20,E.a6 b1 1 s (l.1.map aq) [])] [0,20]) 1 (aL) ?_))))));rintro k ⟨d,m⟩ A h;exact ae b (cI h (λB h=>ar (bw (ah (ai h λe a h=>dc b [.eb 0 25 (0+Int.toNat m) 0 (aq e),.eb 0 26 (0+Int.toNat m) 1 (aq e),.ed 25,.ed 26] (a2 (cr aq a) (cr aq a)) (ax b [aA (bF aq a),br aq a,.z (.nat 21)] (cC h λi o C p q c h=>bA b bz [bo [25] [22] (Sf G o),bo [26] [23] (Sf G p),.z (.lt 24 b1 1),.z (.rows (List.map aq (d++[(⟨[],[]⟩:Loop)]))),aA (Eq.refl (U b1 1)),aA (tX aq (⟨[],[]⟩:Loop) c),bK 2 fl d,bK 2 fl [(⟨[],[]⟩:Loop)]] (dc b [.ee 22 b1 3,.dD 20 22 (aq (⟨[],[]⟩:Loop)) (List.map aq (d++[(⟨i,[]⟩:Loop)])),.ee 23 b1 3,.dD 20 23 (aq (⟨i,[]⟩:Loop)) (q.map aq),.len 3 (q.map aq).length] (a9 (Eq.refl (i.map aC).length) (Eq.refl b1) (nz aq d (⟨[],[]⟩:Loop)) (Bp aq d (ph:=(⟨[],[]⟩:Loop)) (y:=(⟨i,[]⟩:Loop)) rfl) (Eq.refl (C.map aC).length) (Eq.refl b1) (nz aq d (⟨i,[]⟩:Loop)) (tz aq (ph:=(⟨i,[]⟩:Loop)) c rfl) (tT aq (⟨[],[]⟩:Loop) c)) (dc b [.ee 25 b1 3,.ee 26 b1 3,.dD 0 26 (aq e) (nest.map aq),.dD 0 25 (aq e) (nest.map aq)] (e9 (Eq.refl (e.aD.map aC).length) (Eq.refl b1) (cr aq a) (iM aq a rfl) (Eq.refl (e.lo.map aC).length) (Eq.refl b1) (cr aq a) (iM aq a rfl)) (be b ⟨(q,wr (m+1)),(A+1),h,aL⟩))))))))) λB h=>ak h▸bn (ae b (bV b [.dR 20 1 [2,3] []] dz)))
theorem Uv{p}{r}(h:qt n p=some r):cA G 135 [E.a6 b1 1 1 (p.nest.map aq) [],aE 126 1 9 bq p.body] [V.agg [ms 0 1 2 aq p.nest,ms 1 1 9 bq p.body]] (V.agg [ms 2 1 2 aq r.nest,ms 3 1 9 bq r.body]) [E.a6 b1 1 1 (p.nest.map aq) [],aE 126 1 9 bq p.body,E.a6 b1 1 1 (r.nest.map aq) [],aE 126 1 9 bq r.body]:=by refine cK aO func135 rfl λw X o a C=>ad a [.z (.nat 25),.z (.nat 20)] (ai h λl d h=>ad a [bo [0] [21] (Ux G d),.z (.nat 22)] (ah (ad a [aF bq p.body] (bd (bV a [.eU 22 1 23 126] (cg h (λe m=>bb [(2,V.ref 20 0),(3,V.ref 22 0),(11,ms 1 1 9 bq p.body),(12,Y (p.body.length:Int)),(13,Y e.2)] [(0,E.a6 b1 1 1 (p.nest.map aq) []),(1,aE 126 1 9 bq p.body),(20,E.cells [bl,bl]),(21,E.a6 b1 1 1 (l.map aq) []),(22,E.cells [ms 21 1 2 aq l,ms 23 m 9 bq e.1]),(23,aE 126 m 9 bq e.1)] [0,1,20,21,22,23,25]) 1 (aL) ?_))))));rintro c ⟨q,s⟩ x h;exact ae a (cI h (λy h=>ar (bw (ai h λD b h=>ad a [aA (bF bq b),br bq b,.z (.nat 24)] (bH h λA i B k h=>bA a bz [aj (Dx G i),.z (.int 0),bP (b8 bq k),bK 9 gn q,bK 9 gn [A]] (be a ⟨(B,wr (s+1)),(x+1),h,aL⟩))))) λy h=>ak h▸bn (ae a (bV a [.dR 21 2 [] [20,22]] (bV a [.dR 23 3 [] [20,22]] dz))))
theorem UF{p}{part}{i}{r}(h:Dl n p part i=some r):aX G 53 [V.agg (b3 p),Y part,Y i] (V.bJ [V.agg (b3 r.1),aM r.2]):=by
 refine ba aO func53 rfl λw X a=>ad a [.z (.b (true)),.z (.nat 20)] (ah (ai h λN F h=>a8 h (λR h=>ax a [aj (qm G n p part (-1) F R),.z (.nat 21)] (ah (ad a (dJ 7) (jC (b:=true) J (λI=>ak h▸ae a au) λI=>by cases I)))) λR h=>ai h λl d h=>ax a [bo [] [21,22] (ql G n p part (-1) F R),.z (.nat 23)] (dc a [.eb 22 24 (0+Int.toNat part) 0 (an l)] (aH (cr an d)) (ah (ad a (ec 4++[br an d,bZ,aF aq l.nest,bZ,bZ]) (aw h (λP h=>ak h▸ae a au) λP h=>ar (ah (bH h λm c M W h=>dc a [.eb 24 25 (0+Int.toNat 0) 0 (aq m),.eb 24 26 (0+Int.toNat 0) 1 (aq m),.ed 25,.ed 26] (a2 (cr aq c) (cr aq c)) (ax a [br an d,aA (bF aq c),br aq c,.z (.b true),.z (.nat 25),.z (.nat 26),aj (Ju G W)] (dc a [.ee 25 b1 3,.ee 26 b1 3,.dD 24 26 (aq m) (l.nest.map aq),.dD 24 25 (aq m) (l.nest.map aq)] (e9 (Eq.refl (m.aD.map aC).length) (Eq.refl b1) (cr aq c) (iM aq c rfl) (Eq.refl (m.lo.map aC).length) (Eq.refl b1) (cr aq c) (iM aq c rfl)) (ah (ah (a8 h (λf h=>?_) λf h=>?_)))))))))))))
 ·have H:(!M.2.2)=true:=by rw[f];rfl
  exact ax a (aN 6 H) (jC (b:=true) J (λk=>ak h▸ae a au) λk=>by cases k)
 have H:(!M.2.2)=false:=by rw[f];rfl
 refine ai h λg j h=>ax a (aJ 4 H++[aj (fv G j),aG H,aG H]) (dy (b:= !g) (λk=>?_) λk=>?_)
 ·have k:g=false:=by simpa using k
  have h:=hb k h;exact ak h▸ae a au
 have k:g=true:=by simpa using k
 have h:=hc k h;exact ar (ah (ai h λS t h=>dc a [.eb 22 27 (0+Int.toNat part) 1 (an l),.ed 27] (aH (cr an d)) (ax a [br an d,bo [24,27] [28,29] (Uv G t),.z (.nat 30)] (ah (cC h λT o u q v s h=>ai h λC x h=>dc a [.eb 24 31 (0+Int.toNat 0) 1 (aq m),.ed 31] (aH (cr aq c)) (ax a [br an d,aA (bF aq c),br aq c,aA (bF aC o),br aC o,.z (.rows (u.map aC)),aA (str aC q)] (dc a [.ee 31 b1 3,.dD 24 31 (aq m) (v.map aq)] (a4 (cE aC q) (Eq.refl b1) (cr aq c) (gv aq s rfl)) (ah (cC h λK e U y E A h=>ai h λD B h=>dc a [.eb 28 32 (0+Int.toNat 0) 0 (aq K),.ed 32] (aH (cr aq e)) (ax a [aA (bF aq e),br aq e,aA (bF aC y),br aC y,.z (.rows (E.map aC)),aA (str aC A)] (dc a [.ee 32 b1 3,.dD 28 32 (aq K) (D.map aq),.ee 27 b1 2,.dD 22 27 (an l) (N.1.parts.map an),.dD 22 24 (an l) (C.map an)] (a12 (cE aC A) (Eq.refl b1) (cr aq e) (gv aq B rfl) (Eq.refl (l.body.map bq).length) (Eq.refl b1) (cr an d) (iM an d rfl) (cE aq s) (Eq.refl b1) (cr an d) (gv an x rfl)) (dc a [.ed 22,.ff 23 1 (C.map an).length,.ed 28,.ff 30 0 (D.map aq).length,.bu 28 [] [30],.bu 29 [] [30]] (a2 (cE an x) (cE aq B)) (bH h λoh L qV Q h=>ak h▸ad a [.z (.int 1),.z (.nat 33),bo [22,33] [] (JW G n C (wr (part+1)) [(⟨D,S.body⟩:Part)] 1 1 L)] (bV a [.bu 21 [] [23],.bu 22 [] [23]] (ad a [aj (qe G Q)] au)))))))))))))))
theorem R2{p}{r}(h:Cg n p=some r):aX G 258 [V.agg (b3 p)] (Y r):=by refine ba aO func258 rfl λw X a=>ad a [.z (.b (true))] (ae a (ah (ad a [aF bm p.aY] (bd (cj h (λi=>bN [(3,Y i.1),(7,aB bm p.aY),(8,Y (p.aY.length:Int)),(9,Y i.2)]) aL ?_)))));rintro c ⟨l,m⟩ h;exact ae a (cI h (λk h=>ar (bw (ai h λo d h=>ad a [aZ bm d,.z (.nat 20)] (ai h λq e h=>ax a [aj (J8 G e)] (be a (al h)))))) λk h=>ak h▸bn (ae a au))
theorem RS{t}{part}{r}(h:xJ n t part=some r):cA G 201 [] [V.aK [T.ay (List.map bm t.program.aY),T.ay (List.map an t.program.parts),T.ay (List.map bL t.list),T.ay (List.map (aS ab) t.reads),T.ay (List.map ab t.db)],Y part] (V.bJ [ms 0 1 1 bx r.1,ms 1 1 1 bx r.2]) [aE 4 1 1 bx r.1,aE 4 1 1 bx r.2]:=by
 refine cK aO func201 rfl λw X P b bE=>ae b (ah (cC h λgK Q iT q jm R h=>ai h λmr s h=>bA b bz [aj (R2 G Q),.z (.nat 20),bP (ly bx q),aA (jG q).1,aj (R2 G R),.z (.nat 21),bP (ly bx s),aA (jG s).1] (ah (ad b [aF bL t.list] (bd (AS (γ:=Nat×Nat) h (λa d=>bb [(0,V.aK [T.ay (List.map bm t.program.aY),T.ay (List.map an t.program.parts),T.ay (List.map bL t.list),T.ay (List.map (aS ab) t.reads),T.ay (List.map ab t.db)]),(1,Y part),(6,ms 20 d.1 1 bx a.1),(7,ms 21 d.2 1 bx a.2.1),(27,aB bL t.list),(28,Y (t.list.length:Int)),(29,Y a.2.2)] [(20,aE 4 d.1 1 bx a.1),(21,aE 4 d.2 1 bx a.2.1)] [20,21]) (1,1) (aL) ?_))))));rintro x ⟨S,W,L⟩ ⟨N,y⟩ h;refine ae b (cI h (λU h=>?_) λU h=>?_)
 ·refine ar ?_;obtain⟨f,A,h⟩:=lS h;refine lv (γ:=Nat) (j:=f) (r:=r) (λa d=>bb [(0,V.aK [T.ay (List.map bm t.program.aY),T.ay (List.map an t.program.parts),T.ay (List.map bL t.list),T.ay (List.map (aS ab) t.reads),T.ay (List.map ab t.db)]),(1,Y part),(6,ms 20 d 1 bx a.1),(7,ms 21 y 1 bx a.2.1),(27,aB bL t.list),(28,Y (t.list.length:Int)),(29,Y L)] [(20,aE 4 d 1 bx a.1),(21,aE 4 y 1 bx a.2.1),(22,E.cells [Y a.2.2.1,Y a.2.2.2.1,aB ab a.2.2.2.2])] [20,21,22]) ?_ ?_
  ·refine bd (ai h λc B h=>ad b [aZ bL B,.z (.nat 22)] (ah (ae b (aw h (λc2 h=>bn ⟨(S,W,c.part,c.stmt,c.cF),N,h,aL⟩) λc2 h=>ar (ah (ai h λm C h=>ad b [aZ (aS ab) C,aF ab m] (bd (cg h (λa d=>bb [(0,V.aK [T.ay (List.map bm t.program.aY),T.ay (List.map an t.program.parts),T.ay (List.map bL t.list),T.ay (List.map (aS ab) t.reads),T.ay (List.map ab t.db)]),(1,Y part),(6,ms 20 d 1 bx a.1),(7,ms 21 y 1 bx W),(8,Y L),(27,aB bL t.list),(28,Y (t.list.length:Int)),(29,Y L),(44,aB ab m),(45,Y (m.length:Int)),(46,Y a.2)] [(20,aE 4 d 1 bx a.1),(21,aE 4 y 1 bx W),(22,E.cells (jk c))] [20,21,22]) N (aL) ?_))))))));rintro D ⟨g,u⟩ F h;exact ae b (cI h (λc3 h=>ar (bw (ai h λoh H h=>ad b [aZ ab H] (bH h λqV e o i h=>ax b [aA (bF bx e),br bx e,.z (.rows (o.map bx)),.z (.len 6 (o.map bx).length),aA (str bx i),aA (cE bx i)] (be b ⟨(o,wr (u+1)),F,h,aL⟩))))) λc3 h=>bn (cC h λqW K sQ k p l h=>ax b [aZ ab K,aA (bF bx k),br bx k,.z (.rows (p.map bx)),.z (.len 7 (p.map bx).length),aA (str bx l),aA (cE bx l)] ⟨(g,p,c.part,c.stmt,c.cF),F,h,aL⟩))
  rintro⟨v,I,sS,vE,yM⟩ M h;subst A;exact be b ⟨(v,I,wr (L+1)),(M,y),h,aL⟩
 exact ak h▸bn (ae b (bV b [.dR 20 0 [4] []] (bV b [.dR 21 1 [5] []] dz)))
theorem Sr{p}{a}{b}{r}(h:BT n p a b=some r):aX G 136 [V.agg (b3 p),Y a,Y b] (aM r):=ba aO func136 rfl λw X e=>ad e [.z (.b (true))] (ah (ai h λx Q h=>a8 h (λu h=>ax e [.z (.v (V.bJ [V.t T.gF,aM x.2])),aA (vv u (l1 G Q))] (ah (bG h (λH=>bN [(1,Y a),(2,Y b),(7,V.t T.gF),(37,aM H)]) (λmU h=>a8 h (λy h=>ai h λjm K h=>a8 h (λC h=>ai h λmr R h=>a8 h (λE h=>ax e (aJ 3 y++[aj (gL G K),aG y,aG y]++aJ 3 C++[aj (gL G R),aG C,aG C]++aJ 4 E) (al h)) λE h=>ax e (aJ 3 y++[aj (gL G K),aG y,aG y]++aJ 3 C++[aj (gL G R),aG C,aG C]++aN 4 E) (al h)) λC h=>ax e (aJ 3 y++[aj (gL G K),aG y,aG y]++aN 5 C++dJ 4) (al h)) λy h=>ax e (aN 5 y++dJ 9) (al h)) λsT h=>aw h (λS h=>ak h▸ae e au) λS h=>ar (ah (iL h))))) λu h=>ax e [.z (.v (V.bJ [V.aK [T.ay (List.map bm (((x.1.getD default).program).aY)),T.ay (List.map an (((x.1.getD default).program).parts)),T.ay (List.map bL ((x.1.getD default).list)),T.ay (List.map (aS ab) ((x.1.getD default).reads)),T.ay (List.map ab ((x.1.getD default).db))],aM x.2])),aA (vw u (l1 G Q))] (ah (bG h (λH=>bN [(1,Y a),(2,Y b),(7,V.aK [T.ay (List.map bm (((x.1.getD default).program).aY)),T.ay (List.map an (((x.1.getD default).program).parts)),T.ay (List.map bL ((x.1.getD default).list)),T.ay (List.map (aS ab) ((x.1.getD default).reads)),T.ay (List.map ab ((x.1.getD default).db))]),(37,aM H)]) (λBQ h=>a8 h (λA h=>ai h λnk L h=>a8 h (λD h=>ai h λkq W h=>a8 h (λI h=>ax e (aJ 3 A++[aj (gL G L),aG A,aG A]++aJ 3 D++[aj (gL G W),aG D,aG D]++aJ 4 I) (al h)) λI h=>ax e (aJ 3 A++[aj (gL G L),aG A,aG A]++aJ 3 D++[aj (gL G W),aG D,aG D]++aN 4 I) (al h)) λD h=>ax e (aJ 3 A++[aj (gL G L),aG A,aG A]++aN 5 D++dJ 4) (al h)) λA h=>ax e (aN 5 A++dJ 9) (al h)) λpq h=>aw h (λU h=>ak h▸ae e au) λU h=>ar (ai h λi f h=>ad e [bo [] [20,21] (RS G f)] (ai h λo g h=>ad e [bo [] [22,23] (RS G g)] (ah (ad e [aF bx i.1] (bd (cj h (λH=>bb [(9,ms 20 1 1 bx i.1),(10,ms 21 1 1 bx i.2),(11,ms 22 1 1 bx o.1),(12,ms 23 1 1 bx o.2),(51,Y (i.1.length:Int)),(52,Y H)] [(20,aE 4 1 1 bx i.1),(21,aE 4 1 1 bx i.2),(22,aE 4 1 1 bx o.1),(23,aE 4 1 1 bx o.2)] [20,21,22,23]) aL λj M h=>ae e (cI h (λN h=>ar (bw (ae e (bG h (λH=>bb [(9,ms 20 1 1 bx i.1),(10,ms 21 1 1 bx i.2),(11,ms 22 1 1 bx o.1),(12,ms 23 1 1 bx o.2),(51,Y (i.1.length:Int)),(52,Y M),(82,aM H)] [(20,aE 4 1 1 bx i.1),(21,aE 4 1 1 bx i.2),(22,aE 4 1 1 bx o.1),(23,aE 4 1 1 bx o.2)] [20,21,22,23]) (λagD h=>ai h λvB d h=>a8 h (λc h=>ai h λDz q h=>a8 h (λs h=>ax e ([aA (bF bx d),br bx d]++aJ 7 c++[bZ,bZ,bZ,aA (bF bx q),bZ,br bx q,bZ]++aJ 4 s++[bZ,aG s,bZ]) (al h)) λs h=>ai h λvC F h=>ax e ([aA (bF bx d),br bx d]++aJ 7 c++[bZ,bZ,bZ,aA (bF bx q),bZ,br bx q,bZ]++aN 3 s++[aA (bF bx F),aP s,br bx F,bZ,aP s,bZ]) (al h)) λc h=>ai h λoh k h=>a8 h (λm h=>ai h λqV l h=>a8 h (λB h=>ax e ([aA (bF bx d),br bx d]++aN 3 c++[aA (bF bx k),aP c,br bx k,aP c]++aJ 3 m++[aA (bF bx l),aG m,br bx l,aP c,aG m,aP c]++aJ 3 B++[aA (bF bx l),aG B,br bx l]++aJ 8 B) (al h)) λB h=>ax e ([aA (bF bx d),br bx d]++aN 3 c++[aA (bF bx k),aP c,br bx k,aP c]++aJ 3 m++[aA (bF bx l),aG m,br bx l,aP c,aG m,aP c]++aN 7 B) (al h)) λm h=>ax e ([aA (bF bx d),br bx d]++aN 3 c++[aA (bF bx k),aP c,br bx k,aP c]++aN 4 m++[aP c,aP m,aP c]++dJ 7) (al h)) λsP h=>aw h (λP h=>ak h▸ae e au) λP h=>ar (be e (al h)))))) λN h=>ak h▸bn (ae e au))))))))))))
theorem UB{p}{part}{r}(h:C1 n p part=some r):aX G 54 [V.agg (b3 p),Y part] (V.bJ [V.agg (b3 r.1),aM r.2]):=ba aO func54 rfl λw X a=>ad a [.z (.b (true)),.z (.nat 20)] (ah (bG h (λy=>bb [(1,Y part),(2,V.aK (dQ p)),(4,V.ref 20 0),(23,aM y)] [(20,E.cells [bl,bl])] [20]) (λB h=>a8 h (λe h=>a8 h (λi h=>ai h λC o h=>ax a (aJ 4 e++[aF an p.parts,aG e,aG e]++aJ 5 i++[aj (Sr G o),aG i,aG i]) (al h)) λi h=>ax a (aJ 4 e++[aF an p.parts,aG e,aG e]++aN 7 i) (al h)) λe h=>ax a (aN 6 e++dJ 7) (al h)) λD h=>aw h (λA h=>ak h▸ae a au) λA h=>ar (ai h λF q h=>ad a [bo [] [21,22] (Jn G q),.z (.nat 23)] (ah (cC h λH k K c s d h=>bH h λL l x m h=>ak h▸bA a bz [aA (bF an k),br an k,aA (bF an c),br an c,aA (bF an c),br an c,.z (.rows (s.map an)),aA (str an d),aA (Bk an l (cE an d)),br an l,.z (.rows (x.map an)),aA (str an m)] (dc a [.len 31 (s.map an).length,.ff 23 1 (s.map an).length,.ff 23 1 (x.map an).length] (a3 (cE an d) (cE an d) (cE an m)) (ad a [.z (.at 3),.z (.bu 21 [] [23]),.z (.at 3),.z (.bu 22 [] [23])] au)))))))
theorem SJ{t}{a}{r}(h:B9 n t a=some r):cA G 203 [] [V.aK [T.ay (List.map bm t.program.aY),T.ay (List.map an t.program.parts),T.ay (List.map bL t.list),T.ay (List.map (aS ab) t.reads),T.ay (List.map ab t.db)],Y a] (ms 0 1 1 ab r) [aE 3 1 1 ab r]:=by refine cK aO func203 rfl λw X D b Q=>ae b (ae b (ah (ai h λc q h=>ad b [aZ (aS ab) q,aF ab c] (bd (bV b [.grow 5 20 3] (cg h (λd A=>bb [(0,V.aK [T.ay (List.map bm t.program.aY),T.ay (List.map an t.program.parts),T.ay (List.map bL t.list),T.ay (List.map (aS ab) t.reads),T.ay (List.map ab t.db)]),(1,Y a),(5,ms 20 A 1 ab d.1),(15,aB ab c),(16,Y (c.length:Int)),(17,Y d.2)] [(20,aE 3 A 1 ab d.1)] [20]) 1 (aL) ?_))))));rintro m ⟨e,s⟩ i h;exact ae b (cI h (λF h=>ar (bw (ai h λB x h=>ad b [aZ ab x] (ae b (bw (cj h (λd=>bb [(0,V.aK [T.ay (List.map bm t.program.aY),T.ay (List.map an t.program.parts),T.ay (List.map bL t.list),T.ay (List.map (aS ab) t.reads),T.ay (List.map ab t.db)]),(1,Y a),(5,ms 20 i 1 ab e),(7,Y B),(8,Y d),(15,aB ab c),(16,Y (c.length:Int)),(17,Y s)] [(20,aE 3 i 1 ab e)] [20]) aL λo C h=>ah (bG h (λd=>bb [(0,V.aK [T.ay (List.map bm t.program.aY),T.ay (List.map an t.program.parts),T.ay (List.map bL t.list),T.ay (List.map (aS ab) t.reads),T.ay (List.map ab t.db)]),(1,Y a),(5,ms 20 i 1 ab e),(7,Y B),(8,Y C),(15,aB ab c),(16,Y (c.length:Int)),(17,Y s),(35,aM d)] [(20,aE 3 i 1 ab e)] [20]) (λR h=>a8 h (λp h=>ax b (aJ 10 p) (al h)) λp h=>ai h λH k h=>ax b (aN 6 p++[aZ ab k]++aN 4 p) (al h)) λK h=>aw h (λL h=>ar (bd (be b (al h)))) λL h=>bn (ai h λy l h=>ax b [.z (.int 0),bP (b8 ab l),cJ e,cJ [C]] (be b ⟨(y,wr (s+1)),(i+1),h,aL⟩))))))))) λF h=>ak h▸bn (ae b (dP b 4 20)))
theorem Tt{t}{r}(h:Ct n t=some r):cA G 139 [] [V.aK [T.ay (List.map bm t.program.aY),T.ay (List.map an t.program.parts),T.ay (List.map bL t.list),T.ay (List.map (aS ab) t.reads),T.ay (List.map ab t.db)]] (ms 0 1 1 bx r) [aE 4 1 1 bx r]:=by
 refine cK aO func139 rfl λw X E a bE=>ae a (ai h λgK s h=>ad a [aF bL t.list,.z (.nat 20),bP (ly bx s),aA (jG s).1] (ah (ad a [aF bL t.list] (bd (cg h (λb i=>bb [(0,V.aK [T.ay (List.map bm t.program.aY),T.ay (List.map an t.program.parts),T.ay (List.map bL t.list),T.ay (List.map (aS ab) t.reads),T.ay (List.map ab t.db)]),(3,ms 20 i 1 bx b.1),(4,Y b.2)] [(20,aE 4 i 1 bx b.1)] [20]) 1 (aL) ?_)))));rintro K ⟨Q,x⟩ L h;refine ah (ae a (aw h (λI h=>?_) λI h=>?_))
 ·refine ar ?_;obtain⟨M,R,h⟩:=lS h;refine lv (γ:=Nat) (j:=M) (r:=r) (λb i=>bb [(0,V.aK [T.ay (List.map bm t.program.aY),T.ay (List.map an t.program.parts),T.ay (List.map bL t.list),T.ay (List.map (aS ab) t.reads),T.ay (List.map ab t.db)]),(3,ms 20 i 1 bx b),(4,Y x)] [(20,aE 4 i 1 bx b)] [20]) ?_ ?_
  ·refine bd (ah (bG h (λb=>bb [(0,V.aK [T.ay (List.map bm t.program.aY),T.ay (List.map an t.program.parts),T.ay (List.map bL t.list),T.ay (List.map (aS ab) t.reads),T.ay (List.map ab t.db)]),(3,ms 20 L 1 bx Q),(4,Y x),(44,aM b)] [(20,aE 4 L 1 bx Q)] [20]) (λQO h=>ai h λkq d h=>a8 h (λq h=>bA a bz ([aA (bF bx d),br bx d]++aJ 16 q) (al h)) λq h=>cC h λpq W N y P A h=>bA a bz ([aA (bF bx d),br bx d]++aN 7 q++[bP (o3 ab W),cJ t.db]++aN 6 q++[aZ ab y,aP q,aP q,aj (Jl G A),aP q]) (al h)) λS h=>aw h (λU h=>bn ⟨Q,L,h,aL⟩) λU h=>ar (bH h λqU k B l h=>ad a [aA (bF bx k),br bx k,.z (.rows (B.map bx)),.z (.len 3 (B.map bx).length),aA (str bx l),aA (cE bx l)] (ai h λc C h=>ad a [bo [] [21] (SJ G C),aF ab c] (bd (cg h (λb i=>bb [(0,V.aK [T.ay (List.map bm t.program.aY),T.ay (List.map an t.program.parts),T.ay (List.map bL t.list),T.ay (List.map (aS ab) t.reads),T.ay (List.map ab t.db)]),(3,ms 20 i 1 bx b.1),(4,Y x),(50,ms 21 1 1 ab c),(51,Y (c.length:Int)),(52,Y b.2)] [(20,aE 4 i 1 bx b.1),(21,aE 3 1 1 ab c)] [20,21]) L (aL) ?_))))));rintro D ⟨f,F⟩ e h;exact ae a (cI h (λc4 h=>ar (bG h (λb=>bb [(0,V.aK [T.ay (List.map bm t.program.aY),T.ay (List.map an t.program.parts),T.ay (List.map bL t.list),T.ay (List.map (aS ab) t.reads),T.ay (List.map ab t.db)]),(3,ms 20 e 1 bx b),(4,Y x),(50,ms 21 1 1 ab c),(51,Y (c.length:Int)),(52,Y F)] [(20,aE 4 e 1 bx b),(21,aE 3 1 1 ab c)] [20,21]) (λaiA h=>bd (ai h λqW m h=>ad a [aA (bF ab m),br ab m] (ae a (aw h (λc5 h=>bH h λsQ o H p h=>ax a [aA (bF bx o),br bx o,.z (.rows (H.map bx)),.z (.len 3 (H.map bx).length),aA (str bx p),aA (cE bx p)] (al h)) λc5 h=>ar (al h))))) λg h=>be a ⟨(g,wr (F+1)),e,h,aL⟩)) λc4 h=>bn ⟨f,e,h,aL⟩)
  rintro u v h;subst R;exact be a ⟨(u,wr (x-1)),v,h,aL⟩
 exact ak h▸bn (ae a (dP a 2 20))
theorem Vk{p}{part}{r}(h:DV n p part=some r):aX G 55 [V.agg (b3 p),Y part] (V.bJ [V.agg (b3 r.1),aM r.2]):=ba aO func55 rfl λw X c=>ad c [.z (.b (true)),.z (.nat 20)] (ah (ai h λa l h=>a8 h (λB h=>ax c [.z (.v (V.bJ [V.t T.gF,aM a.2])),aA (vv B (l1 G l))] (ah (bG h (λi=>bb [(1,Y part),(2,V.aK (dQ p)),(4,V.ref 20 0),(6,V.t T.gF),(23,aM i)] [(20,E.cells [bl,bl])] [20]) (λI h=>a8 h (λm h=>ai h λM C h=>ax c (aJ 3 m++[aj (gL G C),aG m,aG m]) (al h)) λm h=>ax c (aN 5 m) (al h)) λN h=>aw h (λH h=>ak h▸ae c au) λH h=>ar (ah (ah (iL h)))))) λB h=>ax c [.z (.v (V.bJ [V.aK [T.ay (List.map bm (((a.1.getD default).program).aY)),T.ay (List.map an (((a.1.getD default).program).parts)),T.ay (List.map bL ((a.1.getD default).list)),T.ay (List.map (aS ab) ((a.1.getD default).reads)),T.ay (List.map ab ((a.1.getD default).db))],aM a.2])),aA (vw B (l1 G l))] (ah (bG h (λi=>bb [(1,Y part),(2,V.aK (dQ p)),(4,V.ref 20 0),(6,V.aK [T.ay (List.map bm (((a.1.getD default).program).aY)),T.ay (List.map an (((a.1.getD default).program).parts)),T.ay (List.map bL ((a.1.getD default).list)),T.ay (List.map (aS ab) ((a.1.getD default).reads)),T.ay (List.map ab ((a.1.getD default).db))]),(23,aM i)] [(20,E.cells [bl,bl])] [20]) (λP h=>a8 h (λo h=>ai h λS D h=>ax c (aJ 3 o++[aj (gL G D),aG o,aG o]) (al h)) λo h=>ax c (aN 5 o) (al h)) λU h=>aw h (λK h=>ak h▸ae c au) λK h=>ar (ah (ai h λk F h=>ad c [bo [] [21] (Tt G F),aF bx k] (bd (cj h (λi=>bb [(1,Y part),(2,V.aK (dQ p)),(4,V.ref 20 0),(6,V.aK [T.ay (List.map bm (((a.1.getD default).program).aY)),T.ay (List.map an (((a.1.getD default).program).parts)),T.ay (List.map bL ((a.1.getD default).list)),T.ay (List.map (aS ab) ((a.1.getD default).reads)),T.ay (List.map ab ((a.1.getD default).db))]),(26,ms 21 1 1 bx k),(27,Y (k.length:Int)),(28,Y i)] [(20,E.cells [bl,bl]),(21,aE 4 1 1 bx k)] [20,21]) aL λq L h=>ae c (cI h (λQ h=>ar (bw (ai h λR e h=>ad c [aA (bF bx e),br bx e] (bG h (λi=>bb [(1,Y part),(2,V.aK (dQ p)),(4,V.ref 20 0),(6,V.aK [T.ay (List.map bm (((a.1.getD default).program).aY)),T.ay (List.map an (((a.1.getD default).program).parts)),T.ay (List.map bL ((a.1.getD default).list)),T.ay (List.map (aS ab) ((a.1.getD default).reads)),T.ay (List.map ab ((a.1.getD default).db))]),(26,ms 21 1 1 bx k),(27,Y (k.length:Int)),(28,Y L),(45,aM i)] [(20,E.cells [bl,bl]),(21,aE 4 1 1 bx k)] [20,21]) (λW h=>a8 h (λA h=>ax c (aJ 11 A) (al h)) λA h=>ai h λf s h=>ax c (aN 6 A++[aZ bL s]++aN 5 A) (al h)) λg h=>aw h (λj h=>ak h▸ae c au) λj h=>ar (be c (al h)))))) λQ h=>bn (ai h λu x h=>ad c [bo [] [22,23] (Jn G x),.z (.nat 24)] (ai h λd y h=>ak h▸ad c [bo [23] [] (JX G 1 y),.z (.cut 23 d.1 (List.map an (d.2.take d.1))),aA (PE an d.2 d.1)] (ad c [.z (.at 3),.z (.bu 22 [] [24]),.z (.at 3),.z (.bu 23 [] [24])] au))))))))))))
theorem Gi{a}{r}(h:ns n a=some r):aX G 259 [Y a] (V.agg (c' r)):=ba aO func259 rfl λw X b=>ak h▸ad b [.z (.nat 20)] (ae b au)
theorem lb{e}{a}{r}(h:ie n e a=some r):aX G 261 [V.agg (c' e),Y a] (aM r):=ba aO func261 rfl λw X c=>ad c [.z (.b (true))] (bG h (λi=>bN [(4,aM i)]) (λk h=>a8 h (λd h=>ax c (aJ 5 d) (al h)) λd h=>ax c (aN 5 d) (al h)) λl h=>ak h▸au)
theorem aat(G:cw): ∀(n:Nat) (e:Expr) {r:Expr} (h:qf n e=some r),aX G 204 [V.agg (c' e)] (V.agg (c' r)):=by
 intro n;induction n with
 |zero=>intro e r h;rw[qf.eq_def] at h;cases h
 |succ n l2=>
  intro e r h;rw[qf.eq_def] at h;dsimp only at h;refine ba aO func204 rfl λw X a=>ad a [.z (.b (true)),.z (.nat 20)] (ah (bG h (λA=>bb [(1,V.aK (fp e)),(2,V.ref 20 0),(22,aM A)] [(20,E.cells [Y 0,Y 0,bl,Y 0,cG [],bl,bl])] [20]) (λxI h=>?_) λjm h=>?_))
  ·refine a8 h (λD h=>ax a (aJ 5 D++ec 5) (al h)) λD h=>?_;obtain⟨iT,H,h⟩:=dd h;exact a8 h (λt h=>ax a (aN 3 D++[aj (rM G H),aP D,aP D]++aJ 5 t) (al h)) λt h=>ax a (aN 3 D++[aj (rM G H),aP D,aP D]++aN 5 t) (al h)
  refine aw h (λc3 h=>?_) λc3 h=>?_
  ·obtain⟨mr,u,h⟩:=dd h;obtain rfl:=ak h;exact ad a [aj (Gi G u)] au
  refine ar (ah ?_);obtain⟨sT,v,h⟩:=dd h;refine ad a [aj (F5 G v)] (aw h (λc4 h=>?_) λc4 h=>?_)
  ·obtain rfl:=ak h;exact ae a au
  refine ar (ah ?_);obtain⟨I,M,x,N,P,S,h⟩:=pX h;obtain⟨y,T,h⟩:=dd h;refine bA a bz [.z (.row (fa I)),aA (gN bW M (fm I)),aj (l2 I N),.z (.row (fa P)),aA (gN bW S (fm P)),aj (l2 P T),.z (.nat 21),.z (.nat 22)] (ad a [.z (.int 2),.z (.rows (List.map bW [x,y])),.z (.nat 23),aA (acz x y)] (ae a (ah (bG h (λA=>bb [(1,V.aK (fp e)),(2,V.ref 20 0),(3,V.ref 21 0),(4,V.ref 22 0),(5,V.ref 23 0),(6,Jz (e.kind=6)),(58,aM A)] [(20,E.cells [Y 0,Y 0,bl,Y 0,cG [],bl,bl]),(21,E.cells (c' x)),(22,E.cells (c' y)),(23,E.cells [Y e.kind,Y 0,bl,Y 0,cG [],bl,aB bW [x,y]])] [20,21,22,23]) (λQM h=>a8 h (λU h=>ax a (aJ 4 U) (al h)) λU h=>ax a (aN 4 U) (al h)) λyJ h=>?_))));refine aw h (λmJ h=>?_) λmJ h=>?_
  ·refine ae a (bG h (λA=>bb [(2,V.ref 20 0),(5,V.ref 23 0),(7,Y A)] [(20,E.cells [Y 0,Y 0,bl,Y 0,cG [],bl,bl]),(21,E.cells (c' x)),(22,E.cells (c' y)),(23,E.cells [Y e.kind,Y 0,bl,Y 0,cG [],bl,aB bW [x,y]])] [20,21,22,23]) (λagC h=>ae a (bd (ae a (aw h (λrJ h=>be a (al h)) λrJ h=>ae a (aw h (λky h=>be a (al h)) λky h=>ar (al h)))))) λqU h=>?_);refine ah ?_;obtain⟨yK,K,h⟩:=dd h;refine ad a [aj (fv G K)] (aw h (λc9 h=>?_) λc9 h=>?_)
   ·obtain⟨vB,L,h⟩:=dd h;obtain rfl:=ak h;exact ad a [aj (Gi G L)] au
   obtain rfl:=ak h;exact ar (ae a au)
  refine ar (bw (bG h (λA=>bb [(1,V.aK (fp e)),(2,V.ref 20 0),(3,V.ref 21 0),(4,V.ref 22 0),(5,V.ref 23 0),(6,Jz (e.kind=6)),(85,aM A)] [(20,E.cells [Y 0,Y 0,bl,Y 0,cG [],bl,bl]),(21,E.cells (c' x)),(22,E.cells (c' y)),(23,E.cells [Y e.kind,Y 0,bl,Y 0,cG [],bl,aB bW [x,y]])] [20,21,22,23]) (λagF h=>?_) λsP h=>?_))
  ·refine a8 h (λc h=>?_) λc h=>?_
   ·refine a8 h (λm h=>ax a (aJ 3 c++[bZ,bZ,aG m,aG m,bZ,aG m,bZ]) (al h)) λm h=>?_;obtain⟨vC,Q,h⟩:=dd h;exact ax a (aJ 3 c++[bZ,bZ,aP m,aP m,aj (lb G Q),bZ,aP m,bZ]) (al h)
   obtain⟨oh,B,h⟩:=dd h;refine a8 h (λk h=>?_) λk h=>ax a ([aP c,aP c,aj (lb G B),aP c]++aN 4 k) (al h);refine a8 h (λo h=>ax a [aP c,aP c,aj (lb G B),aP c,aG k,aG k,aG o,aG o,aG k,aG o,aG k] (al h)) λo h=>?_;obtain⟨qV,R,h⟩:=dd h;exact ax a [aP c,aP c,aj (lb G B),aP c,aG k,aG k,aP o,aP o,aj (lb G R),aG k,aP o,aG k] (al h)
  refine aw h (λHw h=>?_) λHw h=>?_
  ·obtain rfl:=ak h;exact ae a au
  refine bG h (λA=>bb [(2,V.ref 20 0),(3,V.ref 21 0),(4,V.ref 22 0),(5,V.ref 23 0),(6,Jz (e.kind=6)),(100,aM A)] [(20,E.cells [Y 0,Y 0,bl,Y 0,cG [],bl,bl]),(21,E.cells (c' x)),(22,E.cells (c' y)),(23,E.cells [Y e.kind,Y 0,bl,Y 0,cG [],bl,aB bW [x,y]])] [20,21,22,23]) (λagG h=>?_) λyL h=>?_
  ·refine a8 h (λd h=>?_) λd h=>?_
   ·refine a8 h (λp h=>ax a (aJ 3 d++[bZ,bZ,aG p,aG p,bZ,aG p,bZ]) (al h)) λp h=>?_;obtain⟨sQ,W,h⟩:=dd h;exact ax a (aJ 3 d++[bZ,bZ,aP p,aP p,aj (lb G W),bZ,aP p,bZ]) (al h)
   obtain⟨vD,C,h⟩:=dd h;refine a8 h (λl h=>?_) λl h=>ax a ([aP d,aP d,aj (lb G C),aP d]++aN 4 l) (al h);refine a8 h (λq h=>ax a [aP d,aP d,aj (lb G C),aP d,aG l,aG l,aG q,aG q,aG l,aG q,aG l] (al h)) λq h=>?_;obtain⟨sR,f,h⟩:=dd h;exact ax a [aP d,aP d,aj (lb G C),aP d,aG l,aG l,aP q,aP q,aj (lb G f),aG l,aP q,aG l] (al h)
  refine aw h (λHy h=>?_) λHy h=>?_
  ·obtain rfl:=ak h;exact ae a au
  refine bG h (λA=>bb [(2,V.ref 20 0),(5,V.ref 23 0),(116,aM A)] [(20,E.cells [Y 0,Y 0,bl,Y 0,cG [],bl,bl]),(21,E.cells (c' x)),(22,E.cells (c' y)),(23,E.cells [Y e.kind,Y 0,bl,Y 0,cG [],bl,aB bW [x,y]])] [20,21,22,23]) (λaiC h=>?_) λJO h=>?_
  ·refine a8 h (λi h=>ax a (aJ 5 i) (al h)) λi h=>?_;obtain⟨vE,F,h⟩:=dd h;refine a8 h (λs h=>?_) λs h=>ax a [aP i,aP i,aj (lb G F),aP i,aP s,aP s,aP i,aP s,aP i] (al h);obtain⟨yM,g,h⟩:=dd h;exact ax a [aP i,aP i,aj (lb G F),aP i,aG s,aG s,aj (lb G g),aP i,aG s,aP i] (al h)
  refine aw h (λHz h=>?_) λHz h=>?_
  ·obtain⟨Sa,j,h⟩:=dd h;obtain rfl:=ak h;exact ad a [aj (Gi G j)] au
  obtain rfl:=ak h;exact ar (ae a au)
theorem X5{s}{r}(h:vL n s=some r):aX G 140 [V.agg (fq s)] (V.agg (fq r)):=ba aO func140 rfl λw X a=>ad a [.z (.b (true)),.z (.nat 20)] (ai h λe c h=>ad a [aj (Dx G c),.z (.nat 21)] (ai h λi d h=>ak h▸ad a [aj (aat G n e.value d)] (ae a au)))
theorem Td{p}{r}(h:Cw n p=some r):aX G 56 [V.agg (b3 p)] (V.bJ [V.agg (b3 r.1),aM r.2]):=by
 refine ba aO func56 rfl λw X a=>ad a [.z (.b (true)),.z (.nat 20)] (ah (ai h λQ y h=>ad a [aj (lW G y)] (aw h (λH h=>ak h▸ae a au) λH h=>ar (ai h λk A h=>ad a [bo [] [21,22] (v6 G A),.z (.nat 23)] (ah (ad a [aF an k.parts] (bd (cj h (λe=>bb [(2,V.ref 20 0),(4,V.ref 23 0),(16,ms 22 1 2 an e.1),(17,Y (k.parts.length:Int)),(18,Y e.2)] [(20,E.cells [bl,bl]),(21,aE 72 1 2 bm k.aY),(22,E.a6 b1 0 1 (e.1.map an) []),(23,E.cells [ms 21 1 2 bm k.aY,ms 22 1 2 an e.1])] [20,21,22,23]) aL ?_))))))));rintro q ⟨s,o⟩ h;refine ae a (cI h (λK h=>?_) λK h=>?_)
 ·refine ar (bw (ai h λd c h=>ad a [.z (.eb 22 24 (0+Int.toNat o) 1 (an d)),.z (.eb 22 27 (0+Int.toNat o) 0 (an d)),br an c,.z (.nat 25),aA (cr an c),aA (bF an c),aA (cr an c)] (bV a [.ed 24] (ad a [aF bq d.body] (bd (cj h (λe=>bb [(2,V.ref 20 0),(4,V.ref 23 0),(16,ms 22 1 2 an s),(17,Y (k.parts.length:Int)),(18,Y o),(6,V.ref 25 0),(23,ms 24 1 9 bq e.1),(24,Y (d.body.length:Int)),(25,Y e.2)] [(20,E.cells [bl,bl]),(21,aE 72 1 2 bm k.aY),(22,E.a6 b1 0 1 (List.map an s) [((0+Int.toNat o),0,ms 27 1 2 aq d.nest),((0+Int.toNat o),1,ms 24 1 9 bq d.body)]),(23,E.cells [ms 21 1 2 bm k.aY,ms 22 1 2 an s]),(24,aE 126 1 9 bq e.1),(25,E.cells [ms 27 1 2 aq d.nest,ms 24 1 9 bq e.1]),(27,E.a6 b1 1 1 (d.nest.map aq) [])] [20,21,22,23,24,25,27]) aL ?_))))));rintro x ⟨R,W⟩ h;exact ae a (cI h (λL h=>ar (bw (ai h λf i h=>ad a [aA (bF bq i),br bq i,.z (.nat 26)] (bH h λg B C l h=>bA a bz [aj (X5 G B),aA (bF bq i),br bq i,.z (.rows (C.map bq)),aA (str bq l)] (dc a [.len 23 (C.map bq).length,.ff 25 1 (C.map bq).length] (a2 (cE bq l) (cE bq l)) (be a (al h))))))) λL h=>bn (bH h λj D F m h=>dc a [.dD 22 27 (an d) (List.map an s),.ee 24 b1 2,.dD 22 24 (an d) (F.map an),.len 16 (F.map an).length,.ff 23 1 (F.map an).length] (SO (Eq.refl (d.nest.map aq).length) (Eq.refl b1) (cr an c) (iM an c rfl) (iJ bq D) (Eq.refl b1) (cr an c) (gv an m rfl) (cE an m) (cE an m)) (be a (al h))))
 exact ak h▸bn (ae a (bV a [.ed 22,.bu 21 [] [20],.bu 22 [] [20]] au))
theorem UK{p}{s}{r}(h:Dt n p s=some r):aX G 19 [V.agg (b3 p),V.agg [Y s.kind,Y s.part,Y s.a,Y s.b]] (V.bJ [V.agg (b3 r.1),aM r.2]):=ba aO func19 rfl λw X c=>ad c [.z (.b (true)),.z (.b (true)),.z (.nat 20)] (ah (ai h λv k h=>ad c [aj (WT G k)] (aw h (λF h=>ak h▸ae c au) λF h=>ar (ah (ae c (bd (ae c (aw h (λH h=>ai h λE l h=>ak h▸ad c [aj (Tc G l)] au) λH h=>ae c (aw h (λK h=>ai h λI m h=>ak h▸ad c [aj (Tb G m)] au) λK h=>ae c (aw h (λL h=>ai h λM o h=>ak h▸ad c [aj (Vi G o)] au) λL h=>ae c (aw h (λQ h=>ai h λN q h=>ak h▸ad c [aj (UG G q)] au) λQ h=>ae c (aw h (λR h=>ai h λP x h=>ak h▸ad c [aj (UC G x)] au) λR h=>ae c (aw h (λW h=>ai h λS y h=>ak h▸ad c [aj (UJ G y)] au) λW h=>ae c (aw h (λf h=>ai h λT A h=>ak h▸ad c [aj (SM G A)] au) λf h=>ae c (aw h (λg h=>ai h λU B h=>ak h▸ad c [aj (UF G B)] au) λg h=>ae c (aw h (λC h=>ai h λj d h=>ak h▸ad c [aj (UB G d)] au) λC h=>ae c (aw h (λD h=>ai h λt e h=>ak h▸ad c [aj (Vk G e)] au) λD h=>ar (ai h λu i h=>ak h▸ad c [aj (Td G i)] au))))))))))))))))))
theorem Vl{p}{e}{r}(h:DW n p e=some r):aX G 7 [V.agg (b3 p),Y e] (V.bJ [V.agg [Y r.1.kind,Y r.1.part,Y r.1.a,Y r.1.b],aM r.2]):=by
 refine ba aO func7 rfl λw X d=>ad d [.z (.b (true)),.z (.nat 20)] (ad d [.z (.nat 21)] (ae d (ai h λgK q h=>ad d [aj (R3 G q)] (ah (ai h λi s h=>ad d [bo [] [22] (SN G s),aF dv i] (bd (cj h (λc=>bb [(1,Y e),(2,V.aK (dQ p)),(4,V.ref 20 0),(6,V.ref 21 0),(7,aM c.2.2.2.2.1),(8,Y c.2.2.2.2.2.1),(18,ms 22 1 4 dv i),(19,Y (i.length:Int)),(20,Y c.2.2.2.2.2.2)] [(20,E.cells [Y 0,Y 0,Y 0,Y 0]),(21,E.cells [Y c.1,Y c.2.1,Y c.2.2.1,Y c.2.2.2.1]),(22,aE 28 1 4 dv i)] [20,21,22]) aL ?_)))))));rintro l ⟨y,A,B,C,nk,kq,D⟩ h;refine ae d (cI h (λF h=>?_) λF h=>?_)
 ·refine ar (bG h (λc=>bb [(1,Y e),(2,V.aK (dQ p)),(4,V.ref 20 0),(6,V.ref 21 0),(7,aM c.2.2.2.2.2.2.2.2.2.2.1),(8,Y c.2.2.2.2.2.2.2.2.2.2.2),(18,ms 22 1 4 dv i),(19,Y (i.length:Int)),(20,Y D)] [(20,E.cells [Y 0,Y 0,Y 0,Y 0]),(21,E.cells [Y c.1,Y c.2.1,Y c.2.2.1,Y c.2.2.2.1]),(22,aE 28 1 4 dv i),(23,E.cells [Y c.2.2.2.2.1,Y c.2.2.2.2.2.1,Y c.2.2.2.2.2.2.1,Y c.2.2.2.2.2.2.2.1]),(24,E.cells [aB bm c.2.2.2.2.2.2.2.2.1,aB an c.2.2.2.2.2.2.2.2.2.1])] [20,21,22,23,24]) (λH h=>bd (ai h λK k h=>ad d [aA (bF dv k),br dv k,.z (.nat 23)] (ai h λL m h=>ad d [aj (UK G m),.z (.nat 24)] (ah (ae d (aw h (λQ h=>bn (al h)) λQ h=>ar (ai h λR o h=>ad d [aj (R3 G o)] (ae d (aw h (λW h=>be d (al h)) λW h=>ar (al h)))))))))) ?_);rintro⟨f,g,j,t,u,v,I,M,N,P,S,T⟩ h;exact be d (al h)
 exact bn (bG h (λc=>bb [(4,V.ref 20 0),(5,aM c)] [(20,E.cells [Y y,Y A,Y B,Y C]),(21,E.cells [Y y,Y A,Y B,Y C]),(22,aE 28 1 4 dv i)] [20,21,22]) (λU h=>a8 h (λx h=>ax d (aJ 3 x) (al h)) λx h=>ax d (aN 3 x) (al h)) λyM h=>ak h▸au)
theorem LF{a}{b}{r}(h:zM n a b=some r):aX G 8 [V.agg [Y a.kind,Y a.part,Y a.a,Y a.b],V.agg [Y b.kind,Y b.part,Y b.a,Y b.b]] (aM r):=ba aO func8 rfl λw X c=>ad c [.z (.b (true)),.z (.b (true))] (ah (ae c (aw h (λd h=>ak h▸ae c au) λd h=>ar (ah (ae c (aw h (λe h=>ak h▸ae c au) λe h=>ar (ah (ae c (aw h (λi h=>ak h▸ae c au) λi h=>ar (ah (ae c (aw h (λk h=>ak h▸ae c au) λk h=>ak h▸ar (ae c au)))))))))))))
theorem LG{a}{b}{r}(h:vR n a b=some r):aX G 141 [aB ab a,aB ab b] (aM r):=ba aO func141 rfl λw X c=>ae c (ah (ad c [aF ab a,aF ab b] (aw h (λk h=>ak h▸ae c au) λk h=>ar (ah (ae c (bd (cj h (λl=>bN [(0,aB ab a),(1,aB ab b),(5,Y l)]) aL λd p h=>ah (ad c [aF ab a] (aw h (λm h=>ar (bw (ah (bH h λq e s i h=>bA c bz [aZ ab e,aZ ab i] (aw h (λo h=>ak h▸ae c au) λo h=>ar (be c (al h))))))) λm h=>ak h▸bn (ae c au))))))))))
theorem Wf{a}{b}{r}(h:y5 n a b=some r):aX G 57 [V.agg [cG a.name,aB ab a.bT],V.agg [cG b.name,aB ab b.bT]] (aM r):=ba aO func57 rfl λw X c=>ad c [.z (.b (true)),.z (.b (true))] (ah (ae c (aw h (λe h=>ak h▸ae c au) λe h=>ar (ah (ai h λk d h=>ad c [aj (LG G d)] (aw h (λi h=>ak h▸ae c au) λi h=>ak h▸ar (ae c au)))))))
theorem U9{a}{b}{r}(h:Er n a b=some r):aX G 20 [aB bm a,aB bm b] (aM r):=ba aO func20 rfl λw X c=>ae c (ah (ad c [aF bm a,aF bm b] (aw h (λl h=>ak h▸ae c au) λl h=>ar (ah (ae c (bd (cj h (λm=>bN [(0,aB bm a),(1,aB bm b),(5,Y m)]) aL λd q h=>ah (ad c [aF bm a] (aw h (λo h=>ar (bw (ah (cC h λs e x i y k h=>bA c bz [aZ bm e,aZ bm i,aj (Wf G k)] (aw h (λp h=>ak h▸ae c au) λp h=>ar (be c (al h))))))) λo h=>ak h▸bn (ae c au))))))))))
theorem KD{a}{b}{r}(h:yq n a b=some r):aX G 296 [V.agg (cf a),V.agg (cf b)] (aM r):=ba aO func296 rfl λw X c=>ad c [.z (.b (true)),.z (.b (true))] (ah (ai h λk d h=>ad c [aj (LG G d)] (aw h (λe h=>ak h▸ae c au) λe h=>ar (ah (ae c (aw h (λi h=>ak h▸ae c au) λi h=>ak h▸ar (ae c au)))))))
theorem JH{a}{b}{r}(h:yg n a b=some r):aX G 262 [aB aC a,aB aC b] (aM r):=ba aO func262 rfl λw X c=>ae c (ah (ad c [aF aC a,aF aC b] (aw h (λl h=>ak h▸ae c au) λl h=>ar (ah (ae c (bd (cj h (λm=>bN [(0,aB aC a),(1,aB aC b),(5,Y m)]) aL λd q h=>ah (ad c [aF aC a] (aw h (λo h=>ar (bw (ah (cC h λs e x i y k h=>bA c bz [aZ aC e,aZ aC i,aj (KD G k)] (aw h (λp h=>ak h▸ae c au) λp h=>ar (be c (al h))))))) λo h=>ak h▸bn (ae c au))))))))))
theorem XR{a}{b}{r}(h:Aa n a b=some r):aX G 205 [V.agg (hf a),V.agg (hf b)] (aM r):=ba aO func205 rfl λw X c=>ad c [.z (.b (true)),.z (.b (true))] (ah (ai h λl d h=>ad c [aj (JH G d)] (aw h (λi h=>ak h▸ae c au) λi h=>ar (ah (ai h λm e h=>ad c [aj (JH G e)] (aw h (λk h=>ak h▸ae c au) λk h=>ak h▸ar (ae c au)))))))
theorem Wd{a}{b}{r}(h:E5 n a b=some r):aX G 142 [aB aq a,aB aq b] (aM r):=ba aO func142 rfl λw X c=>ae c (ah (ad c [aF aq a,aF aq b] (aw h (λl h=>ak h▸ae c au) λl h=>ar (ah (ae c (bd (cj h (λm=>bN [(0,aB aq a),(1,aB aq b),(5,Y m)]) aL λd q h=>ah (ad c [aF aq a] (aw h (λo h=>ar (bw (ah (cC h λs e x i y k h=>bA c bz [aZ aq e,aZ aq i,aj (XR G k)] (aw h (λp h=>ak h▸ae c au) λp h=>ar (be c (al h))))))) λo h=>ak h▸bn (ae c au))))))))))
theorem KE{a}{b}{r}(h:yr n a b=some r):aX G 263 [V.agg (f' a),V.agg (f' b)] (aM r):=ba aO func263 rfl λw X c=>ad c [.z (.b (true)),.z (.b (true))] (ah (ae c (aw h (λe h=>ak h▸ae c au) λe h=>ar (ah (ai h λk d h=>ad c [aj (JH G d)] (aw h (λi h=>ak h▸ae c au) λi h=>ak h▸ar (ae c au)))))))
theorem We(G:cw)(n:Nat)(self:Expr->Expr->Option Bool)(d: ∀(p:Expr) (q:Expr) {r:Bool},self p q=some r->aX G 264 [V.agg (c' p),V.agg (c' q)] (aM r))(a:List Expr)(b:List Expr){r:Bool}(h:E6 n self a b=some r):aX G 297 [aB bW a,aB bW b] (aM r):=by
 refine ba aO func297 rfl λw X c=>ae c (ah (ad c [aF bW a,aF bW b] (aw h (λs h=>?_) λs h=>?_)))
 ·cases h;exact ae c au
 refine ar (ah (ae c (bd (cj h (λx=>bN [(0,aB bW a),(1,aB bW b),(5,Y x)]) aL λe B h=>ah (ad c [aF bW a] (aw h (λy h=>?_) λy h=>?_))))))
 ·refine ar (bw (ah (cC h λi k l m C o h=>bA c bz [.z (.row (fa i)),.z (.row (fa l)),aA (gN bW k (fm i)),aA (gN bW m (fm l)),aj (d i l o)] (aw h (λA h=>?_) λA h=>ar (be c (al h))))));cases h;exact ae c au
 cases h;exact bn (ae c au)
theorem XS(G:cw): ∀(n:Nat) (a:Expr) (b:Expr) {r:Bool} (h:pn n a b=some r),aX G 264 [V.agg (c' a),V.agg (c' b)] (aM r):=by
 intro n;induction n with
 |zero=>intro a b r h;rw[pn.eq_def] at h;cases h
 |succ n k=>
  intro a b r h;rw[pn.eq_def] at h;dsimp only at h;refine ba aO func264 rfl λw X c=>ad c [.z (.b (true)),.z (.b (true))] (ah (ae c (aw h (λl h=>?_) λl h=>?_)))
  ·cases h;exact ae c au
  refine ar (ah (ae c (aw h (λm h=>?_) λm h=>?_)))
  ·cases h;exact ae c au
  refine ar (ah ?_);obtain⟨y,d,h⟩:=dd h;refine ad c [aj (KD G d)] (aw h (λo h=>?_) λo h=>?_)
  ·cases h;exact ae c au
  refine ar (ah ?_);obtain⟨A,e,h⟩:=dd h;refine ad c [aj (KE G e)] (aw h (λp h=>?_) λp h=>?_)
  ·cases h;exact ae c au
  refine ar (ah ?_);obtain⟨B,i,h⟩:=dd h;refine ad c [aj (We G n (pn n) (λq s r h=>k q s h) a.bj b.bj i)] (aw h (λx h=>?_) λx h=>?_)
  ·cases h;exact ae c au
  cases h;exact ar (ae c au)
theorem XP{a}{b}{r}(h:zL n a b=some r):aX G 206 [V.agg (fq a),V.agg (fq b)] (aM r):=ba aO func206 rfl λw X c=>ad c [.z (.b (true)),.z (.b (true))] (ah (ai h λl d h=>ad c [aj (KE G d)] (aw h (λi h=>ak h▸ae c au) λi h=>ar (ah (ai h λm e h=>ad c [aj (XS G n a.value b.value e)] (aw h (λk h=>ak h▸ae c au) λk h=>ak h▸ar (ae c au)))))))
theorem Wb{a}{b}{r}(h:E3 n a b=some r):aX G 143 [aB bq a,aB bq b] (aM r):=ba aO func143 rfl λw X c=>ae c (ah (ad c [aF bq a,aF bq b] (aw h (λl h=>ak h▸ae c au) λl h=>ar (ah (ae c (bd (cj h (λm=>bN [(0,aB bq a),(1,aB bq b),(5,Y m)]) aL λd q h=>ah (ad c [aF bq a] (aw h (λo h=>ar (bw (ah (cC h λs e x i y k h=>bA c bz [aZ bq e,aZ bq i,aj (XP G k)] (aw h (λp h=>ak h▸ae c au) λp h=>ar (be c (al h))))))) λo h=>ak h▸bn (ae c au))))))))))
theorem XQ{a}{b}{r}(h:zN n a b=some r):aX G 58 [V.agg (jR a),V.agg (jR b)] (aM r):=ba aO func58 rfl λw X c=>ad c [.z (.b (true)),.z (.b (true))] (ah (ai h λl d h=>ad c [aj (Wd G d)] (aw h (λi h=>ak h▸ae c au) λi h=>ar (ah (ai h λm e h=>ad c [aj (Wb G e)] (aw h (λk h=>ak h▸ae c au) λk h=>ak h▸ar (ae c au)))))))
theorem Wc{a}{b}{r}(h:E4 n a b=some r):aX G 21 [aB an a,aB an b] (aM r):=ba aO func21 rfl λw X c=>ae c (ah (ad c [aF an a,aF an b] (aw h (λl h=>ak h▸ae c au) λl h=>ar (ah (ae c (bd (cj h (λm=>bN [(0,aB an a),(1,aB an b),(5,Y m)]) aL λd q h=>ah (ad c [aF an a] (aw h (λo h=>ar (bw (ah (cC h λs e x i y k h=>bA c bz [aZ an e,aZ an i,aj (XQ G k)] (aw h (λp h=>ak h▸ae c au) λp h=>ar (be c (al h))))))) λo h=>ak h▸bn (ae c au))))))))))
theorem Uf{a}{b}{r}(h:C5 n a b=some r):aX G 9 [V.agg (b3 a),V.agg (b3 b)] (aM r):=ba aO func9 rfl λw X c=>ad c [.z (.b (true)),.z (.b (true))] (ah (ai h λl d h=>ad c [aj (U9 G d)] (aw h (λi h=>ak h▸ae c au) λi h=>ar (ah (ai h λm e h=>ad c [aj (Wc G e)] (aw h (λk h=>ak h▸ae c au) λk h=>ak h▸ar (ae c au)))))))
theorem Sv(G:cw)(n:Nat)(m:Prog)(d:Int){r:Bool}(h:Jb n m d=some r):aX G 3 [V.agg (b3 m),Y d] (aM r):=ba aO func3 rfl λw X c=>ad c [.z (.b (true))] (ae c (ai h λL o h=>ad c [aj (Ue G o)] (ah (ae c (aw h (λB h=>ak h▸ae c au) λB h=>ar (bH h λQ p k q h=>ad c [aj (JE G p),aj (Vf G q),.z (.nat 20)] (ai h λC s h=>ad c [aj (JE G s),.z (.nat 21)] (ai h λl x h=>ad c [aj (Vl G x),.z (.nat 22)] (ah (bG h (λD=>bb [(2,V.aK (dQ m)),(8,V.ref 21 0),(39,aM D)] [(20,E.cells [Y k.1.kind,Y k.1.part,Y k.1.a,Y k.1.b]),(21,E.cells (b3 C)),(22,E.cells [Y l.1.kind,Y l.1.part,Y l.1.a,Y l.1.b])] [20,21,22]) (λR h=>ai h λW e h=>a8 h (λy h=>ax c ([aj (LF G e)]++aJ 4 y) (al h)) λy h=>ax c ([aj (LF G e)]++aN 4 y) (al h)) λf h=>aw h (λF h=>ak h▸ae c au) λF h=>ar (ah (ah (bH h λg A H i h=>bA c bz [aj (JE G A),aj (Uf G i)] (aw h (λK h=>ak h▸ae c au) λK h=>ak h▸ar (ae c au)))))))))))))))
end Go.Lift
