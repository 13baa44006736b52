/- Tools. -/
import Derived.Test.YteifkndfpnkalabGreatXTab
set_option maxRecDepth 10000
set_option linter.unusedVariables false
namespace Go.Lift
open Go Go.Proofs Go.Proofs.Tryz
open Option renaming some -> aa, none -> ak, map_some -> gN
open Bool renaming true -> ab, false -> al
open Decidable renaming decide -> aj
open Go.Builtin renaming zeroCells -> ei
open List renaming replicate -> dn, map -> bj
open Int renaming toNat -> bp
open Eq renaming refl -> bc
section
variable (G:cL){n:Nat}
theorem Wo{nest}{r}(h:Es n nest=aa r):bn G 257 [aJ av nest] (aY r):=bE aT func257 rfl λw X a=>ae a (ao (ah a [aO av nest] (bu (cz h (λe=>b4 [(0,aJ av nest),(5,aJ av nest),(6,Y (nest.length:Int)),(7,Y e)]) aW λd l h=>ae a (dc h (λm h=>aA (bM (au h λo i h=>ah a [a8 av i,.z (.nat 20)] (b0 h (λe=>bz [(0,aJ av nest),(5,aJ av nest),(6,Y (nest.length:Int)),(7,Y l),(23,aY e)] [(20,E.cells (iz o))] [20]) (λq h=>au h λs b h=>bk h (λc h=>au h λx k h=>aF a ([ay (E6 G b)]++aR 4 c++[ay (E6 G k),aN c,aN c]) (az h)) λc h=>aF a ([ay (E6 G b)]++aX 6 c) (az h)) λy h=>aD h (λp h=>aw h▸ae a aG) λp h=>aA (bt a (az h)))))) λm h=>aw h▸bG (ah a [aO av nest] aG))))))
theorem za{a}{c}{r}(h:oC n a c=aa r):bn G 286 [V.agg (cF a),aJ ai c] (Y r):=by refine bE aT func286 rfl λw X d=>ah d [.z (.b (ab))] (ae d (ao (ah d [aO ai c] (bu (cz h (λl=>b4 [(2,V.aU (aq a)),(5,Y l.1),(10,aJ ai c),(11,Y (c.length:Int)),(12,Y l.2)]) aW ?_)))));rintro e ⟨o,p⟩ h;exact ae d (dc h (λm h=>aA (bM (au h λq i h=>ah d [a8 ai i] (au h λs k h=>aF d [a8 ai k] (bt d (az h)))))) λm h=>aw h▸bG (ae d aG))
theorem Wp{l}{a}{r}(h:Eu n l a=aa r):bn G 295 [V.agg (iz l),aJ ai a] (V.bZ [Y r.1,Y r.2]):=by refine bE aT func295 rfl λw X c=>ah c [.z (.b (ab))] (ao (cY h λQ o R p W q h=>au h λA s h=>bK c bJ [a8 aq o,ay (za G p),a8 aq q,ay (za G s)] (ao (ah c [aO aq l.bo] (bu (cz h (λd=>b4 [(1,aJ ai a),(2,V.aU (av l)),(6,Y d.1),(7,Y A),(25,aJ aq l.bo),(26,Y (l.bo.length:Int)),(27,Y d.2)]) aW ?_))))));rintro m ⟨B,f⟩ h;refine ae c (dc h (λC h=>aA (bM (au h λg x h=>ah c [a8 aq x,.z (.nat 20)] (au h λj y h=>aF c [ay (za G y)] (bt c (az h)))))) λC h=>bG (ao (ah c [aO aq l.aL] (bu (cz h (λd=>b4 [(1,aJ ai a),(6,Y B),(7,Y d.1),(38,aJ aq l.aL),(39,Y (l.aL.length:Int)),(40,Y d.2)]) aW ?_)))));rintro e ⟨D,F⟩ h;exact ae c (dc h (λH h=>aA (bM (au h λK i h=>ah c [a8 aq i,.z (.nat 20)] (au h λL k h=>aF c [ay (za G k)] (bt c (az h)))))) λH h=>aw h▸bG (ae c aG))
theorem UW(G:cL): ∀(n:Nat) (c:nk) (a:Nat) (b:List Int) {r:Bool×nk} (h:re n c b=aa r),b' G 258 [E.cells [aJ av c.nest,Y c.steps,ms 1 a 1 (bh ai) c.out],aM 67 a 1 (bh ai) c.out] [V.ref 0 0,aJ ai b] (aY r.1) [E.cells [aJ av r.2.nest,Y r.2.steps,ms 1 (a+1) 1 (bh ai) r.2.out],aM 67 (a+1) 1 (bh ai) r.2.out]:=by
 intro n;induction n with
 |zero=>intro c a b r h;rw[re.eq_def] at h;cases h
 |succ n N=>
  intro c a b r h;rw[re.eq_def] at h;dsimp only at h;refine cq aT func258 rfl λw X P d K=>ae d (ao (ah d [aO ai b,aO av c.nest] (aD h (λS h=>?_) λS h=>?_)))
  ·refine ao ?_;obtain⟨T,L,H,Q,h⟩:=hZ h;cases h;exact bK d bJ [ba [] [20] (G.clone b L),.z (.at 5),.z (.bT 20 [22] []),.z (.int 0),cu (cU (bh ai) Q),ar (kQ (r:=(bh ai)) 1 (λ_=>rfl) c.out),ar (kQ (r:=(bh ai)) 1 (λ_=>rfl) [T])] (ah d [aO (bh ai) H] (tI (Fl 0 2 1 a (a+1) 1 0 (bj (bh ai) H).length (e:= .arr 67 (a+1) 1 (bj (bh ai) H)) (cs:=[aJ av c.nest,Y c.steps,ms 1 (a+1) 1 (bh ai) H]) rfl J J J J rfl rfl K.2.1) b2))
  refine aA ?_;obtain⟨js,R,M,W,h⟩:=hZ h;refine ah d [aO ai b,a8 av R,ay (Wp G W)] (ao (ae d (bu (cT h (λi q=>bz [(0,V.ref 0 0),(1,aJ ai b),(6,Y M.2),(7,Y i.2.2.2)] [(0,E.cells [aJ av i.1,Y i.2.1,ms 1 q 1 (bh ai) i.2.2.1]),(1,aM 67 q 1 (bh ai) i.2.2.1)] [0,1]) a (aW) ?_))));rintro s ⟨f,g,x,t⟩ p h;refine ao (ae d (aD h (λU h=>?_) λU h=>?_))
  ·refine aA (bM (ae d ?_));obtain⟨u,y,h⟩:=nu h;refine mV (γ:=Nat) (j:=u) (r:=r) (λi q=>bz [(0,V.ref 0 0),(1,aJ ai b),(6,Y M.2),(7,Y t),(74,aY i.2.2.2)] [(0,E.cells [aJ av i.1,Y i.2.1,ms 1 q 1 (bh ai) i.2.2.1]),(1,aM 67 q 1 (bh ai) i.2.2.1)] [0,1]) ?_ ?_
   ·refine bk h (λk h=>?_) λk h=>aF d (aX 9 k) ⟨(f,wr (g+1),x,ab),p,h,aW⟩;obtain⟨v,A,I,B,l,C,h⟩:=qT h;exact aF d (aR 3 k++[ba [] [20] (G.clone b A),aN k,aN k,.z (.int 0),aN k,cu (cU ai B),.z (.at 3),.z (.bT 20 [71] []),dG v,dG [t],aN k,ba [0,1] [] (N (⟨f,wr (g+1),x⟩:nk) p I C),aN k,aN k]) ⟨(l.2.nest,l.2.steps,l.2.out, !l.1),(p+1),h,aW⟩
   rintro⟨D,F,m,n'⟩ o h;subst y;refine aD h (λh7 h=>?_) λh7 h=>aA (bt d ⟨(D,F,m,wr (t+1)),o,h,aW⟩);cases h;exact ae d (tI (Fl 0 2 1 a o 1 0 (bj (bh ai) m).length (e:= .arr 67 o 1 (bj (bh ai) m)) (cs:=[aJ av D,Y F,ms 1 o 1 (bh ai) m]) rfl J J J J rfl rfl K.2.1) b2)
  cases h;exact bG (ae d (tI (Fl 0 2 1 a p 1 0 (bj (bh ai) x).length (e:= .arr 67 p 1 (bj (bh ai) x)) (cs:=[aJ av f,Y g,ms 1 p 1 (bh ai) x]) rfl J J J J rfl rfl K.2.1) b2))
theorem VN{nest}{r}(h:Ed n nest=aa r):b' G 204 [] [aJ av nest] (V.bZ [ms 0 1 1 (bh ai) r.1,aY r.2]) [aM 67 1 1 (bh ai) r.1]:=cq aT func204 rfl λw X d a k=>ae a (ao (au h λl b h=>ah a [ay (Wo G b)] (aD h (λe h=>aw h▸ae a (aS a [.grow 2 0 67] b2)) λe h=>aA (ah a [.z (.nat 20)] (ao (au h λm c h=>ah a [.z (.at 2),.z (.ct 20 2 21 67),ba [20,21] [] (UW G n (⟨nest,0,[]⟩:nk) 1 [] c)] (aD h (λi h=>aw h▸ae a (aS a [.grow 2 0 67] b2)) λi h=>aw h▸aA (ae a (ff a 2 21)))))))))
variable {r:Bool}{x:List (List Int)}{b:List Part}{k:Type}{l:List k}{i:Int}{y:k}
theorem VI(G:cL)(n:Nat)(s:aE)(a:Int)(h:zq n s a=aa r):bn G 296 [V.agg (cF s),V.aU [T.int .i64 a]] (aY r):=bE aT func296 rfl λw X e=>ah e [.z (.b (ab))] (b0 h (λk=>b4 [(3,aY k)]) (λl h=>au h λm c h=>bk h (λd h=>au h λo i h=>bK e bJ ([ay (sU G c),aN d,aN d,ay (sQ G i)]++aR 3 d) (az h)) λd h=>bK e bJ ([ay (sU G c)]++aX 5 d) (az h)) λp h=>aw h▸aG)
theorem Ei{a}{c}{r}(h:zZ n a c=aa r):bn G 260 [V.agg (gD a),Y c] (aY r):=bE aT func260 rfl λw X l=>ah l [.z (.b (ab)),.z (.b (ab))] (b0 h (λp=>b4 [(4,aY p)]) (λq h=>au h λs e h=>bk h (λd h=>aF l ([ay (pS G e)]++aR 5 d++eF 6) (az h)) λd h=>au h λx i h=>bk h (λk h=>aF l ([ay (pS G e)]++aX 3 d++[aO aq a.a7,aZ d,ay (fY G i),aZ d]++aR 6 k) (az h)) λk h=>au h λy m h=>aF l ([ay (pS G e)]++aX 3 d++[aO aq a.a7,aZ d,ay (fY G i),aZ d]++aX 4 k++[ay (yA G n a.a7 296 [T.int .i64 c] (λo=>zq n o c) (λo r h=>VI G n o c h) m),aZ k,aZ k]) (az h)) λA h=>aw h▸aG)
theorem wo{a}{r}(h:zV n a=aa r):bn G 298 [V.agg (cF a)] (aY r):=bE aT func298 rfl λw X c=>ah c [.z (.b (ab))] (b0 h (λe=>b4 [(2,aY e)]) (λi h=>bk h (λd h=>aF c ([aO ai a.aK]++aR 4 d) (az h)) λd h=>aF c ([aO ai a.aK]++aX 4 d) (az h)) λk h=>aw h▸aG)
theorem Eh{a}{r}(h:tA n a=aa r):bn G 299 [V.agg (gD a)] (aY r):=bE aT func299 rfl λw X d=>ah d [.z (.b (ab))] (b0 h (λe=>b4 [(2,aY e)]) (λi h=>bk h (λc h=>aF d (aR 5 c) (az h)) λc h=>aF d (aX 3 c++[aO aq a.a7,aZ c,aZ c]) (az h)) λk h=>aw h▸aG)
theorem G9{kind}{r}(h:sq n kind=aa r):bn G 247 [Y kind] (aY r):=bE aT func247 rfl λw X b=>ae b (au h λc a h=>aw h▸ah b [ay (fY G a)] aG)
theorem XI(G:cL): ∀(n:Nat) (e:Expr) (a:Int) (c:Int) (count:Int) {r:Bool×Int} (h:pO n e a c count=aa r),b' G 261 [E.cells [Y count]] [V.agg (ef e),Y a,Y c,V.ref 0 0] (aY r.1) [E.cells [Y r.2]]:=by
 intro n;induction n with
 |zero=>intro e a c count r h;rw[pO.eq_def] at h;cases h
 |succ n P=>
  intro e a c count r h;rw[pO.eq_def] at h;dsimp only at h;refine cq aT func261 rfl λw X hi d bV=>ah d [.z (.b (ab))] (ae d (ao (b0 h (λl=>bz [(1,Y a),(2,Y c),(3,V.ref 0 0),(4,V.aU (bm e)),(21,aY l)] [(0,E.cells [Y (wr (count+1))])] [0]) (λy2 h=>bk h (λS h=>aF d (aR 3 S) (az h)) λS h=>aF d (aX 3 S) (az h)) λkW h=>?_)));refine aD h (λc2 h=>?_) λc2 h=>?_
  ·cases h;exact ae d b2
  refine aA (ao (b0 h (λl=>bz [(1,Y a),(2,Y c),(3,V.ref 0 0),(4,V.aU (bm e)),(51,aY l)] [(0,E.cells [Y (wr (count+1))])] [0]) (λale h=>?_) λEK h=>?_))
  ·refine bk h (λy h=>?_) λy h=>?_
   ·refine bk h (λm h=>?_) λm h=>?_
    ·refine bk h (λv h=>aF d (aR 4 y++eF 4++aR 4 m++[cf,aN m]++eF 5++aR 4 v++[cf,aN v,cf]) (az h)) λv h=>?_;obtain⟨nh,T,h⟩:=c9 h;exact aF d (aR 4 y++eF 4++aR 4 m++[cf,aN m]++eF 5++aX 3 v++[ay (Eh G T),aZ v,cf,aZ v,cf]) (az h)
    obtain⟨uk,j,h⟩:=c9 h;refine bk h (λK h=>?_) λK h=>aF d (aR 4 y++eF 4++aX 3 m++[ay (wo G j),aZ m,cf,aZ m,cf]++aX 6 K) (az h);refine bk h (λI h=>aF d (aR 4 y++eF 4++aX 3 m++[ay (wo G j),aZ m,cf,aZ m,cf]++aR 4 K++aR 4 I++[aN K,aN I,aN K]) (az h)) λI h=>?_;obtain⟨Ac,U,h⟩:=c9 h;exact aF d (aR 4 y++eF 4++aX 3 m++[ay (wo G j),aZ m,cf,aZ m,cf]++aR 4 K++aX 3 I++[ay (Eh G U),aZ I,aN K,aZ I,aN K]) (az h)
   refine bk h (λi h=>?_) λi h=>aF d (aX 4 y++aX 6 i++ea 6) (az h);refine bk h (λo h=>?_) λo h=>?_
   ·refine bk h (λp h=>aF d (aX 4 y++aR 4 i++aR 4 o++[aN i,aN o,aN i]++eF 4++aR 4 p++[cf,aN p,cf]) (az h)) λp h=>?_;obtain⟨l7,ah5,h⟩:=c9 h;exact aF d (aX 4 y++aR 4 i++aR 4 o++[aN i,aN o,aN i]++eF 4++aX 3 p++[ay (Eh G ah5),aZ p,cf,aZ p,cf]) (az h)
   obtain⟨kX,t,h⟩:=c9 h;refine bk h (λk h=>?_) λk h=>aF d (aX 4 y++aR 4 i++aX 3 o++[ay (wo G t),aZ o,aN i,aZ o,aN i]++aX 6 k) (az h);refine bk h (λq h=>aF d (aX 4 y++aR 4 i++aX 3 o++[ay (wo G t),aZ o,aN i,aZ o,aN i]++aR 4 k++aR 4 q++[aN k,aN q,aN k]) (az h)) λq h=>?_;obtain⟨oa,ah6,h⟩:=c9 h;exact aF d (aX 4 y++aR 4 i++aX 3 o++[ay (wo G t),aZ o,aN i,aZ o,aN i]++aR 4 k++aX 3 q++[ay (Eh G ah6),aZ q,aN k,aZ q,aN k]) (az h)
  refine aD h (λIU h=>?_) λIU h=>?_
  ·cases h;exact ae d b2
  refine aA (bM (ae d (aD h (λIV h=>?_) λIV h=>?_)))
  ·refine b0 h (λl=>bz [(8,aY l)] [(0,E.cells [Y (wr (count+1))])] [0]) (λSe h=>?_) λrZ h=>?_
   ·obtain⟨EL,L,h⟩:=c9 h;exact bk h (λA h=>aF d ([ay (fY G L)]++aR 5 A) (az h)) λA h=>aF d ([ay (fY G L)]++aX 3 A++[aO aI e.a1,aZ A,aZ A]) (az h)
   cases h;exact b2
  refine ae d (aD h (λaf9 h=>?_) λaf9 h=>?_)
  ·refine b0 h (λl=>bz [(8,aY l)] [(0,E.cells [Y (wr (count+1))])] [0]) (λSf h=>?_) λxf h=>?_
   ·obtain⟨r0,B,h⟩:=c9 h;refine bk h (λs h=>aF d ([ay (sU G B)]++aR 6 s++eF 5) (az h)) λs h=>?_;obtain⟨Ab,Q,h⟩:=c9 h;exact bk h (λC h=>aF d ([ay (sU G B)]++aX 3 s++[ay (sQ G Q)]++aX 3 s++aR 5 C) (az h)) λC h=>aF d ([ay (sU G B)]++aX 3 s++[ay (sQ G Q)]++aX 3 s++aX 3 C++[aO aI e.a1,aZ C,aZ C]) (az h)
   cases h;exact b2
  refine ae d (aD h (λIW h=>?_) λIW h=>?_)
  ·refine b0 h (λl=>bz [(8,aY l)] [(0,E.cells [Y (wr (count+1))])] [0]) (λakf h=>?_) λr2 h=>?_
   ·obtain⟨r1,R,h⟩:=c9 h;exact bk h (λD h=>aF d ([ay (Ei G R)]++aR 5 D) (az h)) λD h=>aF d ([ay (Ei G R)]++aX 3 D++[aO aI e.a1,aZ D,aZ D]) (az h)
   cases h;exact b2
  refine b0 h (λl=>bz [(1,Y a),(2,Y c),(3,V.ref 0 0),(4,V.aU (bm e)),(99,aY l)] [(0,E.cells [Y (wr (count+1))])] [0]) (λaiu h=>?_) λui h=>?_
  ·obtain⟨uh,W,h⟩:=c9 h;exact bk h (λF h=>aF d ([ay (G9 G W)]++aR 3 F++[aO aI e.a1,aN F,aN F]) (az h)) λF h=>aF d ([ay (G9 G W)]++aX 5 F) (az h)
  refine aD h (λIX h=>?_) λIX h=>?_
  ·cases h;exact ae d b2
  refine aA (b0 h (λl=>bz [(8,aY l.2)] [(0,E.cells [Y l.1])] [0]) (λJ0 h=>?_) ?_)
  ·obtain⟨x,f,uj,g,h⟩:=hZ h;refine bk h (λH h=>aF d ([.z (.row (bm x)),ar (fZ aI f (cQ x)),ba [0] [] (P x a (wr (c+1)) (wr (count+1)) g)]++aR 10 H) (az h)) λH h=>?_;obtain⟨u,M,EN,N,h⟩:=hZ h;exact aF d ([.z (.row (bm x)),ar (fZ aI f (cQ x)),ba [0] [] (P x a (wr (c+1)) (wr (count+1)) g)]++aX 3 H++[.z (.row (bm u)),ar (fZ aI M (cQ u))]++aX 6 H++[ba [0] [] (P u a (wr (c+1)) uj.2 N),aZ H]) (az h)
  rintro⟨KA,TC⟩ h;cases h;exact b2
theorem Wm{s}{a}{r}(h:EJ n s a=aa r):bn G 207 [V.agg (fT s),Y a] (aY r):=by refine bE aT func207 rfl λw X e=>ah e [.z (.b (ab))] (ah e [.z (.nat 20)] (b0 h (λm=>bz [(4,aY m.2)] [(20,E.cells [Y m.1])] [20]) (λo h=>au h λp c h=>bk h (λd h=>aF e ([ay (fY G c)]++aR 5 d++eF 5) (az h)) λd h=>au h λq i h=>bk h (λk h=>aF e ([ay (fY G c)]++aX 4 d++[ay (Ei G i),aZ d]++aR 5 k) (az h)) λk h=>au h λx l h=>aF e ([ay (fY G c)]++aX 4 d++[ay (Ei G i),aZ d]++aX 4 k++[ba [20] [] (XI G n s.value a 1 0 l),aZ k]) (az h)) ?_));rintro⟨y,A⟩ h;exact aw h▸aG
theorem ak8(G:cL)(n:Nat)(s:Stmt)(a:Part)(h:yE n s a=aa r):bn G 206 [V.agg (fT s),V.aU (an a)] (aY r):=bE aT func206 rfl λw X d=>ah d [.z (.b (ab))] (au h λe c h=>aw h▸ah d [aO av a.nest,ay (Wm G c)] aG)
theorem Wj(G:cL)(n:Nat)(a:Int)(h:zF n a=aa r):bn G 262 [Y a] (aY r):=bE aT func262 rfl λw X c=>ae c (au h λd b h=>aw h▸ah c [ay (fY G b)] aG)
theorem Yp{a}{r}(h:A4 n a=aa r):bn G 208 [aJ ai a] (aY r):=bE aT func208 rfl λw X c=>ae c (b0 h (λi=>b4 [(2,aY i)]) (λk h=>bk h (λb h=>aF c ([aO ai a]++aR 4 b) (az h)) λb h=>au h λl d h=>aF c [aO ai a,aZ b,aZ b,ay (f8 G n a 262 (λe=>zF n e) (λe r h=>Wj G n e h) d),aZ b,aZ b] (az h)) λm h=>aw h▸aG)
theorem M9(G:cL): ∀(n:Nat) (e:Expr) {r:(List cx)} (h:rb n e=aa r),b' G 240 [] [V.agg (ef e)] (ms 0 1 2 eI r) [aM 113 1 2 eI r]:=by
 intro n;induction n with
 |zero=>intro e r h;rw[rb.eq_def] at h;cases h
 |succ n p=>
  intro e r h;rw[rb.eq_def] at h;dsimp only at h;refine cq aT func240 rfl λw X q a F=>ah a [.z (.b (ab))] (ao (ae a (aD h (λs h=>?_) λs h=>?_)))
  ·obtain rfl:=aw h;exact ah a [.z (.int 1),.z (.nat 20)] (ff a 2 20)
  refine aA (ae a (ao (ah a [aO aI e.a1] (bu (aS a [.grow 3 20 113] ?_)))));refine cT h (λd o=>bz [(3,ms 20 o 2 eI d.1),(13,aJ aI e.a1),(14,Y (e.a1.length:Int)),(15,Y d.2)] [(20,aM 113 o 2 eI d.1)] [20]) 1 (aW) ?_;rintro c ⟨x,y⟩ A h;refine ae a (dc h (λB h=>?_) λB h=>?_)
  ·refine aA (bM ?_);obtain⟨i,k,h⟩:=c9 h;refine ah a [.z (.row (bm i)),.z (.nat 21),ar (fZ aI k (cQ i))] ?_;obtain⟨C,l,D,m,h⟩:=hZ h;exact aF a [ba [] [22] (p i l),.z (.at 2),.z (.bT 22 [21] []),cu (cU eI m),b5 2 EC x,b5 2 EC C] (bt a ⟨(D,wr (y+1)),(A+1),h,aW⟩)
  obtain rfl:=aw h;exact bG (ae a (ff a 2 20))
theorem K5{a}{r}(h:Ef n a=aa r):bn G 285 [V.agg [cc a.name,aJ ai a.b8]] (Y r):=by refine bE aT func285 rfl λw X c=>ah c [.z (.b (ab))] (ae c (ao (ah c [aO ai a.b8] (bu (cz h (λi=>b4 [(3,Y i.1),(7,aJ ai a.b8),(8,Y (a.b8.length:Int)),(9,Y i.2)]) aW ?_)))));rintro d ⟨l,m⟩ h;exact ae c (dc h (λk h=>aA (bM (au h λo e h=>ah c [a8 ai e] (bt c (bt c (az h)))))) λk h=>aw h▸bG (ae c aG))
theorem y5{p}{a}{d}{r}(h:th n p a d=aa r):bn G 241 [V.agg (cH p),V.agg (gD a),aJ ai d] (Y r):=by
 refine bE aT func241 rfl λw X c=>ah c [.z (.b (ab)),.z (.b (ab))] (ae c (ao (ah c [aO a6 p.bb] (bu (cz h (λi=>b4 [(2,aJ ai d),(4,V.aU (eI a)),(7,Y i.1),(15,aJ a6 p.bb),(16,Y (p.bb.length:Int)),(17,Y i.2)]) aW ?_)))));rintro m ⟨A,R⟩ h;refine ae c (dc h (λB h=>?_) λB h=>?_)
 ·refine aA (bM (au h λq s h=>ah c [a8 a6 s,.z (.nat 20)] (ao (ae c (aD h (λC h=>au h λW x h=>ah c [ay (K5 G x)] (bG (bt c (az h)))) λC h=>aA (ao (ah c [aO aq a.a7,aO ai q.b8] (aD h (λD h=>aw h▸ae c aG) λD h=>aA (ae c (ao (ah c [aO aq a.a7] (bu (cz h (λi=>bz [(2,aJ ai d),(7,Y A),(9,V.ref 20 0),(10,Y i.1),(38,aJ aq a.a7),(39,Y (a.a7.length:Int)),(40,Y i.2)] [(20,E.cells [cc q.name,aJ ai q.b8])] [20]) aW ?_)))))))))))));rintro o ⟨f,g⟩ h;exact ae c (dc h (λF h=>aA (bM (au h λj y h=>ah c [a8 aq y,.z (.nat 21)] (au h λH k h=>ah c [ay (za G k)] (ao (bY h λK e L l h=>ah c [a8 ai e,ay (fY G l)] (aD h (λQ h=>aw h▸ae c aG) λQ h=>aA (aF c [a8 ai e] (bt c (az h)))))))))) λF h=>aw h▸bG (ae c aG))
 exact aw h▸bG (ae c aG)
theorem TW(G:cL)(n:Nat)(a:cx)(c:Prog)(d:List Int)(h:y0 n a c d=aa r):bn G 264 [V.agg (gD a),V.aU (fc c),V.aU [T.bH (bj ai d)]] (aY r):=bE aT func264 rfl λw X i=>ah i [.z (.b (ab))] (au h λk e h=>aw h▸ah i [ay (y5 G e)] aG)
theorem ak6(G:cL)(n:Nat)(s:List cx)(e:FuncId)(b:List T)(c:List T)(f:cx->Option Bool)(m: ∀(l:cx) r,f l=aa r->bn G e [V.agg (gD l),V.aU b,V.aU c] (aY r)){r:Int}(h:Ka n s f=aa r):bn G 300 [aJ eI s,V.fn e [V.aU b,V.aU c]] (Y r):=by
 refine bE aT func300 rfl λw X a=>ae a (ao (ah a [aO eI s] (bu (cz h (λo=>b4 [(0,aJ eI s),(1,V.fn e [V.aU b,V.aU c]),(7,Y (s.length:Int)),(8,Y o)]) aW λd y h=>ae a (dc h (λp h=>?_) λp h=>?_)))))
 ·refine aA (bM (ae a (bY h λq i z k h=>ah a [a8 eI i,ay (m q _ k)] (aD h (λx h=>?_) λx h=>aA (bt a (az h))))));obtain rfl:=aw h;exact ae a aG
 obtain rfl:=aw h;exact bG (ae a aG)
theorem ak2(G:cL)(n:Nat)(s:List cx)(c:FuncId)(a:List T)(b:List T)(f:cx->Option Bool)(k: ∀(e:cx) r,f e=aa r->bn G c [V.agg (gD e),V.aU a,V.aU b] (aY r))(h:Dr n s f=aa r):bn G 263 [aJ eI s,V.fn c [V.aU a,V.aU b]] (aY r):=by refine bE aT func263 rfl λw X i=>ae i (au h λl d h=>?_);cases h;exact ah i [ay (ak6 G n s c a b f k d)] aG
theorem UE{p}{s}{a}{r}(h:DH n p s a=aa r):bn G 209 [V.agg (cH p),V.agg (fT s),aJ ai a] (aY r):=bE aT func209 rfl λw X e=>ah e [.z (.b (ab)),.z (.b (ab)),.z (.b (ab))] (b0 h (λm=>b4 [(6,aY m)]) (λq h=>au h λx d h=>bk h (λc h=>aF e ([ay (y5 G d)]++aR 7 c) (az h)) λc h=>bY h λo i y k h=>aF e ([ay (y5 G d)]++aX 3 c++[ba [] [20] (M9 G n s.value i),aZ c,aZ c,.z (.b (ab)),ay (ak2 G n o 264 (fc p) [T.bH (a.map ai)] (λl=>y0 n l p a) (λl r h=>TW G n l p a h) k),aZ c,aZ c]) (az h)) λA h=>aw h▸aG)
theorem TS(G:cL)(n:Nat)(s:List Stmt)(d:FuncId)(b:List T)(f:Stmt->Option Bool)(l: ∀(k:Stmt) r,f k=aa r->bn G d [V.agg (fT k),V.aU b] (aY r)){r:Int}(h:Kf n s f=aa r):bn G 259 [aJ ax s,V.fn d [V.aU b]] (Y r):=by
 refine bE aT func259 rfl λw X a=>ae a (ao (ah a [aO ax s] (bu (cz h (λm=>b4 [(0,aJ ax s),(1,V.fn d [V.aU b]),(7,Y (s.length:Int)),(8,Y m)]) aW λc x h=>ae a (dc h (λo h=>?_) λo h=>?_)))))
 ·refine aA (bM (ae a (bY h λp e y i h=>ah a [a8 ax e,ay (l p _ i)] (aD h (λq h=>?_) λq h=>aA (bt a (az h))))));obtain rfl:=aw h;exact ae a aG
 obtain rfl:=aw h;exact bG (ae a aG)
theorem ak4(G:cL)(n:Nat)(s:List Stmt)(b:FuncId)(a:List T)(f:Stmt->Option Bool)(i: ∀(d:Stmt) r,f d=aa r->bn G b [V.agg (fT d),V.aU a] (aY r))(h:Dv n s f=aa r):bn G 205 [aJ ax s,V.fn b [V.aU a]] (aY r):=by refine bE aT func205 rfl λw X e=>ae e (au h λk c h=>?_);cases h;exact ah e [ay (TS G n s b a f i c)] aG
theorem Ss{p}{r}(h:vj n p=aa r):b' G 140 [] [V.agg (cH p)] (V.bZ [ms 0 1 3 cK r.1,aY r.2]) [aM 107 1 3 cK r.1]:=by
 refine cq aT func140 rfl λw X T a bV=>ah a [.z (.b (ab))] (ao (b0 h (λc=>b4 [(1,V.aU (fc p)),(22,aY c)]) (λy2 h=>au h λkW q h=>bk h (λs h=>aF a ([ay (LD G q)]++aR 3 s++[aO an p.parts,aN s,aN s]) (az h)) λs h=>aF a ([ay (LD G q)]++aX 5 s) (az h)) λjs h=>aD h (λU h=>aw h▸ae a (aS a [.grow 2 0 107] b2)) λU h=>aA (ae a (ao (ah a [aO an p.parts] (bu (aS a [.grow 4 20 107] (cT h (λc k=>bz [(1,V.aU (fc p)),(4,ms 20 k 3 cK c.1),(24,aJ an p.parts),(25,Y (p.parts.length:Int)),(26,Y c.2)] [(20,aM 107 k 3 cK c.1)] [20]) 1 (aW) ?_))))))));rintro g ⟨t,l⟩ u h;refine ae a (dc h (λfi h=>?_) λfi h=>?_)
 ·refine aA (bM (au h λd v h=>ah a [a8 an v,.z (.nat 21),.z (.at 0),.z (.sS 21 [6])] (au h λi E h=>ah a [ba [] [22] (VN G E)] (ao (b0 h (λc=>bz [(1,V.aU (fc p)),(4,ms 20 u 3 cK t),(5,Y l),(6,V.aU (an d)),(7,ms 22 1 1 (bh ai) i.1),(24,aJ an p.parts),(25,Y (p.parts.length:Int)),(26,Y l),(51,aY c)] [(20,aM 107 u 3 cK t),(22,aM 67 1 1 (bh ai) i.1)] [20,21,22]) (λSd h=>bk h (λe h=>au h λz' m h=>bk h (λj h=>au h λEL x h=>aF a (aR 3 e++[aO ax d.body,aN e,ay (fY G m),aN e,aN e]++aR 4 j++[ay (ak4 G n d.body 206 (an d) (λI=>yE n I d) (λI r h=>ak8 G n I d h) x),aN j]) (az h)) λj h=>aF a (aR 3 e++[aO ax d.body,aN e,ay (fY G m),aN e,aN e]++aX 5 j) (az h)) λe h=>aF a (aX 6 e++ea 5) (az h)) λrZ h=>aD h (λsM h=>aw h▸ae a (aS a [.grow 2 0 107] b2)) λsM h=>aA (ah a [aO (bh ai) i.1] (bu (cT h (λc k=>bz [(1,V.aU (fc p)),(4,ms 20 k 3 cK c.1),(5,Y l),(6,V.aU (an d)),(24,aJ an p.parts),(25,Y (p.parts.length:Int)),(26,Y l),(52,ms 22 1 1 (bh ai) i.1),(53,Y (i.1.length:Int)),(54,Y c.2)] [(20,aM 107 k 3 cK c.1),(22,aM 67 1 1 (bh ai) i.1)] [20,21,22]) u (aW) ?_))))))));rintro y ⟨M,A⟩ B h;refine ae a (dc h (λpt h=>aA (bM (au h λC o h=>ah a [ar (bO (bh ai) o),bF (bh ai) o] (ao (au h λr1 D h=>ah a [ay (Yp G D)] (aD h (λjZ h=>aw h▸ae a (aS a [.grow 2 0 107] b2)) λjZ h=>aA (ah a [aO ax d.body] (bu (cT h (λc k=>bz [(1,V.aU (fc p)),(4,ms 20 k 3 cK c.1),(5,Y l),(6,V.aU (an d)),(10,aJ ai C),(24,aJ an p.parts),(25,Y (p.parts.length:Int)),(26,Y l),(52,ms 22 1 1 (bh ai) i.1),(53,Y (i.1.length:Int)),(54,Y A),(62,aJ ax d.body),(63,Y (d.body.length:Int)),(64,Y c.2)] [(20,aM 107 k 3 cK c.1),(22,aM 67 1 1 (bh ai) i.1)] [20,21,22]) B (aW) ?_))))))))) λpt h=>bG (bt a ⟨(M,wr (l+1)),B,h,aW⟩));rintro F ⟨H,K⟩ L h;exact ae a (dc h (λyx h=>aA (bM (au h λr4 Q h=>ah a [a8 ax Q,.z (.nat 23)] (ao (au h λxg R h=>ah a [ay (UE G R)] (aD h (λN h=>aw h▸ae a (aS a [.grow 2 0 107] b2)) λN h=>aA (bY h λP W S f h=>aF a [ba [] [24] (G.clone C W),.z (.at 4),.z (.bT 24 [78] []),.z (.int 0),cu (cU cK f),b5 3 AV H,b5 3 AV [(⟨l,K,P⟩:cO)]] (bt a ⟨(S,wr (K+1)),(L+1),h,aW⟩)))))))) λyx h=>bG (bt a ⟨(H,wr (A+1)),L,h,aW⟩))
 exact aw h▸bG (ah a [aO cK t] (ff a 2 20))
theorem oB{p}{r}(h:vU n p=aa r):bn G 56 [V.agg (cH p)] (aY r):=bE aT func56 rfl λw X a=>ah a [.z (.b (ab))] (au h λd c h=>aw h▸ah a [ba [] [20] (Ss G c)] (ae a aG))
theorem vO(G:cL)(n:Nat)(a:aE){r:aE}(h:k4 n a=aa r):b' G 96 [] [V.agg (cF a)] (V.agg [ms 0 1 1 ai r.aK,Y r.const]) [aM 3 1 1 ai r.aK]:=cq aT func96 rfl λw X e c i=>ah c [.z (.b (ab)),.z (.nat 20)] (ao (au h λk d h=>aw h▸bK c bJ [ba [] [21] (G.clone a.aK d)] (aS c [.bs 21 0 [] [20]] b2)))
theorem KG(G:cL)(n:Nat)(a:aE){r:aE}(h:k4 n a=aa r):bn G 96 [V.agg (cF a)] (V.agg (cF r)):=bE aT func96 rfl λw X c=>ah c [.z (.b (ab)),.z (.nat 20)] (ao (au h λe d h=>aw h▸bK c bJ [ba [] [21] (G.clone a.aK d)] (aS c [.bT 21 [] [20]] aG)))
theorem Lk(G:cL)(n:Nat)(a:cx)(c:FuncId)(change:aE->Option aE)(d: ∀(p:aE) r,change p=aa r->bn G c [V.agg (cF p)] (V.agg (cF r))){r:cx}(h:rk n a change=aa r):bn G 233 [V.agg (gD a),V.fn c []] (V.agg (gD r)):=by refine bE aT func233 rfl λw X e=>ah e [.z (.b (ab)),.z (.nat 20)] (ah e [.z (.nat 21)] (ao (ah e [aO aq a.a7] (bu (aS e [.ct 21 1 22 92] (cT h (λk q=>bz [(1,V.fn c []),(4,V.ref 20 0),(5,V.ref 21 0),(12,aJ aq a.a7),(13,Y (a.a7.length:Int)),(14,Y k.2)] [(20,E.cells [cc [],bB]),(21,E.cells [cc a.array,ms 22 q 2 aq k.1]),(22,aM 92 q 2 aq k.1)] [20,21,22]) 1 (aW) ?_))))));rintro i ⟨s,x⟩ y h;refine ae e (dc h (λA h=>aA (bM (au h λB l h=>ah e [a8 aq l,.z (.nat 23)] (bY h λC m D o h=>bK e bJ [ay (d B _ m),.z (.int 0),cu (cU aq o),b5 2 fX s,b5 2 fX [C]] (bt e ⟨(D,wr (x+1)),(y+1),h,aW⟩))))) λA h=>?_);cases h;exact bG (ah e [.z (.at 2),.z (.bT 22 [] [21])] aG)
theorem Yq(G:cL): ∀(n:Nat) (e:Expr) (a:FuncId) (change:aE->Option aE) (c: ∀(B:aE) r,change B=aa r->bn G a [V.agg (cF B)] (V.agg (cF r))) {r:Expr} (h:j' n e change=aa r),bn G 234 [V.agg (ef e),V.fn a []] (V.agg (ef r)):=by
 intro n;induction n with
 |zero=>intro e a change c r h;rw[j'.eq_def] at h;cases h
 |succ n D=>
  intro e a change c r h;rw[j'.eq_def] at h;dsimp only at h;refine bE aT func234 rfl λw X d=>ah d [.z (.b (ab)),.z (.nat 20)] (ah d [.z (.nat 21)] (b0 h (λi=>bz [(1,V.fn a []),(2,V.aU (bm e)),(4,V.ref 20 0),(5,V.ref 21 0)] [(20,E.cells [Y 0,Y 0,bB,Y 0,cc [],bB,bB]),(21,E.cells [Y e.kind,Y e.num,aJ ai i.1,Y i.2.1,cc i.2.2.1,aJ aq i.2.2.2,bB])] [20,21]) (λj h=>?_) ?_))
  ·refine ae d (bu (ae d (aD h (λF h=>?_) λF h=>?_)))
   ·obtain⟨t,s,h⟩:=c9 h;exact aF d [ay (c e.index _ s)] (az h)
   refine ae d (aD h (λH h=>?_) λH h=>aA (az h));obtain⟨u,x,h⟩:=c9 h;exact aF d [ay (Lk G n e.read a change c x)] (az h)
  rintro⟨K,L,Q,R⟩ h;refine ao (ah d [aO aI e.a1] (bu (aS d [.ct 21 6 22 116] (cT h (λi C=>bz [(1,V.fn a []),(4,V.ref 20 0),(5,V.ref 21 0),(30,aJ aI e.a1),(31,Y (e.a1.length:Int)),(32,Y i.2)] [(20,E.cells [Y 0,Y 0,bB,Y 0,cc [],bB,bB]),(21,E.cells [Y e.kind,Y e.num,aJ ai K,Y L,cc Q,aJ aq R,ms 22 C 7 aI i.1]),(22,aM 116 C 7 aI i.1)] [20,21,22]) 1 (aW) ?_))));rintro m ⟨W,f⟩ y h;refine ae d (dc h (λg h=>?_) λg h=>?_)
  ·refine aA (bM ?_);obtain⟨k,o,h⟩:=c9 h;refine ah d [.z (.row (bm k)),.z (.nat 23),ar (fZ aI o (cQ k))] ?_;obtain⟨l,p,A,q,h⟩:=hZ h;exact bK d bJ [ay (D k a change c p),.z (.int 2),.z (.rows (bj aI [l])),ar (se l),cu (cU aI q),b5 7 j5 W,b5 7 j5 [l]] (bt d ⟨(A,wr (f+1)),(y+1),h,aW⟩)
  cases h;exact bG (ah d [.z (.at 2),.z (.bT 22 [] [21])] aG)
theorem Ym(G:cL)(n:Nat)(s:Stmt)(a:FuncId)(change:aE->Option aE)(c: ∀(i:aE) r,change i=aa r->bn G a [V.agg (cF i)] (V.agg (cF r))){r:Stmt}(h:oQ n s change=aa r):bn G 173 [V.agg (fT s),V.fn a []] (V.agg (fT r)):=by refine bE aT func173 rfl λw X k=>ah k [.z (.b (ab)),.z (.nat 20)] (ao (bY h λl d m e h=>?_));cases h;exact bK k bJ [ay (Lk G n s.write a change c d),ay (Yq G n s.value a change c e)] aG
theorem L5{s}{r}(h:w4 n s=aa r):bn G 187 [V.agg (fT s)] (V.agg (fT r)):=bE aT func187 rfl λw X d=>ah d [.z (.b (ab)),.z (.nat 20)] (au h λe a h=>aw h▸ah d [ay (Ym G n s 96 (λc=>k4 n c) (λc r h=>KG G n c h) a)] aG)
theorem DT{a}{r}(h:pC n a=aa r):b' G 184 [] [aJ aq a] (ms 0 1 2 aq r) [aM 92 1 2 aq r]:=by refine cq aT func184 rfl λw X m b B=>ae b (ae b (ao (ah b [aO aq a] (bu (aS b [.grow 3 20 92] (cT h (λd l=>bz [(3,ms 20 l 2 aq d.1),(6,aJ aq a),(7,Y (a.length:Int)),(8,Y d.2)] [(20,aM 92 l 2 aq d.1)] [20]) 1 (aW) ?_))))));rintro c ⟨o,p⟩ q h;exact ae b (dc h (λs h=>aA (bM (au h λx e h=>ah b [a8 aq e,.z (.nat 21)] (bY h λy i A k h=>aF b [ay (KG G n x i),.z (.int 0),cu (cU aq k),b5 2 fX o,b5 2 fX [y]] (bt b ⟨(A,wr (p+1)),(q+1),h,aW⟩))))) λs h=>aw h▸bG (ae b (ff b 2 20)))
theorem Yn{nest}{r}(h:ry n nest=aa r):b' G 119 [] [aJ av nest] (ms 0 1 2 av r) [aM 82 1 2 av r]:=by refine cq aT func119 rfl λw X m a B=>ae a (ae a (ao (ah a [aO av nest] (bu (aS a [.grow 3 20 82] (cT h (λc l=>bz [(3,ms 20 l 2 av c.1),(6,aJ av nest),(7,Y (nest.length:Int)),(8,Y c.2)] [(20,aM 82 l 2 av c.1)] [20]) 1 (aW) ?_))))));rintro b ⟨o,p⟩ q h;exact ae a (dc h (λs h=>aA (bM (au h λC d h=>ah a [a8 av d,.z (.nat 21)] (cY h λx e y i A k h=>bK a bJ [ba [] [22] (DT G e),ba [] [23] (DT G i),.z (.at 4),.z (.bT 22 [15] []),.z (.at 4),.z (.bT 23 [18] []),.z (.int 0),cu (cU av k),b5 2 fx o,b5 2 fx [(⟨x,y⟩:Loop)]] (bt a ⟨(A,wr (p+1)),(q+1),h,aW⟩))))) λs h=>aw h▸bG (ae a (ff a 2 20)))
theorem Wg{nest}{r}(h:ry n nest=aa r):b' G 119 [] [aJ av nest] (ms 0 1 2 av r) [E.aC cg 1 1 (r.map av) []]:=by refine cq aT func119 rfl λw X q a C=>ae a (ae a (ao (ah a [aO av nest] (bu (aS a [.grow 3 20 82,.b3 20 cg 1] (cT h (λi p=>bz [(3,ms 20 p 2 av i.1),(6,aJ av nest),(7,Y (nest.length:Int)),(8,Y i.2)] [(20,E.aC cg 1 p (i.1.map av) [])] [20]) 1 (aW) ?_))))));rintro e ⟨c,s⟩ x h;exact ae a (dc h (λA h=>aA (bM (au h λD k h=>ah a [a8 av k,.z (.nat 21)] (cY h λd l B m o b h=>bK a bJ [ba [] [22] (DT G l),ba [] [23] (DT G m),.z (.lt 24 cg 1),.z (.rows (bj av (c++[(⟨[],[]⟩:Loop)]))),ar (bc (U cg 1)),ar (lA av (⟨[],[]⟩:Loop) b),b5 2 fx c,b5 2 fx [(⟨[],[]⟩:Loop)]] (cV a [.b3 22 cg 3,.cn 20 22 (av (⟨[],[]⟩:Loop)) (bj av (c++[(⟨d,[]⟩:Loop)])),.b3 23 cg 3,.cn 20 23 (av (⟨d,[]⟩:Loop)) (o.map av),.len 3 (o.map av).length] (a9 (bc (d.map aq).length) (bc cg) (hb av c (⟨[],[]⟩:Loop)) (np av c (ph:=(⟨[],[]⟩:Loop)) (y:=(⟨d,[]⟩:Loop)) rfl) (bc (B.map aq).length) (bc cg) (hb av c (⟨d,[]⟩:Loop)) (ma av (ph:=(⟨d,[]⟩:Loop)) b rfl) (lB av (⟨[],[]⟩:Loop) b)) (bt a ⟨(o,wr (s+1)),(x+1),h,aW⟩)))))) λA h=>aw h▸bG (ae a (aS a [.bs 20 0 [2,3] []] b2)))
theorem Wd{p}{r}(h:rv n p=aa r):b' G 122 [] [V.agg (mc p)] (V.agg [ms 0 1 2 av r.nest,ms 1 1 9 ax r.body]) [E.aC cg 1 1 (r.nest.map av) [],aM 118 1 9 ax r.body]:=by refine cq aT func122 rfl λw X q a D=>ah a [.z (.b (ab)),.z (.nat 20)] (au h λm d h=>ah a [ba [] [21] (Wg G d),.z (.nat 22)] (ao (ah a [aO ax p.body] (bu (aS a [.ct 22 1 23 118] (cT h (λe o=>bz [(2,V.ref 20 0),(3,V.ref 22 0),(11,aJ ax p.body),(12,Y (p.body.length:Int)),(13,Y e.2)] [(20,E.cells [bB,bB]),(21,E.aC cg 1 1 (m.map av) []),(22,E.cells [ms 21 1 2 av m,ms 23 o 9 ax e.1]),(23,aM 118 o 9 ax e.1)] [20,21,22,23]) 1 (aW) ?_))))));rintro c ⟨s,x⟩ y h;exact ae a (dc h (λA h=>aA (bM (au h λF i h=>ah a [a8 ax i,.z (.nat 24)] (bY h λB k C l h=>bK a bJ [ay (L5 G k),.z (.int 0),cu (cU ax l),b5 9 gR s,b5 9 gR [B]] (bt a ⟨(C,wr (x+1)),(y+1),h,aW⟩))))) λA h=>aw h▸bG (ae a (aS a [.bs 21 0 [] [20,22]] (aS a [.bs 23 1 [] [20,22]] b2))))
theorem UK{p}{r}(h:pA n p=aa r):b' G 57 [] [V.agg (cH p)] (V.agg [ms 0 1 2 a6 r.bb,ms 1 1 2 an r.parts]) [aM 121 1 2 a6 r.bb,E.aC cg 0 1 (r.parts.map an) []]:=by refine cq aT func57 rfl λw X K a t=>ah a [.z (.b (ab)),.z (.nat 20)] (ah a [.z (.nat 21)] (ao (ah a [aO a6 p.bb] (bu (aS a [.ct 21 0 22 121] (cT h (λe l=>bz [(1,V.aU (fc p)),(2,V.ref 20 0),(3,V.ref 21 0),(9,aJ a6 p.bb),(10,Y (p.bb.length:Int)),(11,Y e.2)] [(20,E.cells [bB,bB]),(21,E.cells [ms 22 l 2 a6 e.1,bB]),(22,aM 121 l 2 a6 e.1)] [20,21,22]) 1 (aW) ?_))))));rintro s ⟨x,L⟩ A h;refine ae a (dc h (λQ h=>aA (bM (au h λH B h=>ah a [a8 a6 B,.z (.nat 23)] (bY h λR C W D h=>bK a bJ [ba [] [24] (G.clone H.b8 C),.z (.at 5),.z (.bT 24 [21] []),.z (.int 0),cu (cU a6 D),b5 2 rC x,b5 2 rC [(⟨H.name,R⟩:cC)]] (bt a ⟨(W,wr (L+1)),(A+1),h,aW⟩))))) λQ h=>bG (ao (ah a [aO an p.parts] (bu (aS a [.ct 21 1 23 86,.b3 23 cg 0] (cT h (λe l=>bz [(2,V.ref 20 0),(3,V.ref 21 0),(28,aJ an p.parts),(29,Y (p.parts.length:Int)),(30,Y e.2)] [(20,E.cells [bB,bB]),(21,E.cells [ms 22 A 2 a6 x,ms 23 l 2 an e.1]),(22,aM 121 A 2 a6 x),(23,E.aC cg 0 l (e.1.map an) [])] [20,21,22,23]) 1 (aW) ?_))))));rintro m ⟨k,f⟩ F h;exact ae a (dc h (λg h=>aA (bM (au h λj o h=>ah a [a8 an o,.z (.nat 24)] (bY h λc q i d h=>bK a bJ [ba [] [25,26] (Wd G q),.z (.lt 27 cg 0),.z (.rows (bj an (k++[(⟨[],[]⟩:Part)]))),ar (bc (U cg 0)),ar (lA an (⟨[],[]⟩:Part) d),b5 2 j4 k,b5 2 j4 [(⟨[],[]⟩:Part)]] (cV a [.cn 23 25 (an (⟨[],[]⟩:Part)) (bj an (k++[(⟨c.nest,[]⟩:Part)])),.b3 26 cg 2,.cn 23 26 (an (⟨c.nest,[]⟩:Part)) (i.map an),.eY 21 1 (i.map an).length] (a9 (bc (c.nest.map av).length) (bc cg) (hb an k (⟨[],[]⟩:Part)) (np an k (ph:=(⟨[],[]⟩:Part)) (y:=(⟨c.nest,[]⟩:Part)) rfl) (bc (c.body.map ax).length) (bc cg) (hb an k (⟨c.nest,[]⟩:Part)) (ma an (ph:=(⟨c.nest,[]⟩:Part)) d rfl) (lB an (⟨[],[]⟩:Part) d)) (bt a ⟨(i,wr (f+1)),(F+1),h,aW⟩)))))) λg h=>aw h▸bG (ae a (aS a [.bs 22 0 [] [20,21]] (aS a [.bs 23 1 [] [20,21]] b2))))
theorem hD{p}{part}{r}(h:k3 n p part=aa r):bn G 124 [V.agg (cH p),Y part] (aY r):=bE aT func124 rfl λw X c=>ah c [.z (.b (ab))] (au h λd a h=>aw h▸ah c [aO an p.parts,ay (fY G a)] aG)
theorem Tz{p}{part}{loop}{r}(h:Kh n p part loop=aa r):bn G 168 [V.agg (cH p),Y part,Y loop] (aY r):=bE aT func168 rfl λw X d=>ah d [.z (.b (ab))] (b0 h (λk=>b4 [(6,aY k)]) (λm h=>au h λo c h=>bk h (λa h=>aF d ([ay (hD G c)]++aR 11 a) (az h)) λa h=>bY h λl e q i h=>aF d ([ay (hD G c)]++aX 5 a++[a8 an e]++aX 3 a++[aO av l.nest,aZ a,aZ a,ay (fY G i),aZ a]) (az h)) λs h=>aw h▸aG)
theorem rn(G:cL)(n:Nat)(p:Prog)(a:Int)(i:Int){r:Prog×Bool}(h:iv n p a i=aa r)(x:r.2=ab):b' G 90 [] [V.agg (cH p),Y a,Y i] (V.bZ [V.agg [ms 0 1 2 a6 r.1.bb,ms 1 1 2 an r.1.parts],V.cR 1 1 2 (0+bp a) 0,aY ab]) [aM 121 1 2 a6 r.1.bb,E.aC cg 0 1 (r.1.parts.map an) []]:=by
 refine cq aT func90 rfl λw X y d C=>ah d [.z (.b (ab)),.z (.nat 20)] (ao (b0 h (λA=>bz [(1,Y a),(3,V.aU (fc p)),(6,V.ref 20 0),(29,aY A)] [(20,E.cells [bB,bB])] [20]) (λD h=>au h λF e h=>bk h (λc h=>au h λH l h=>bk h (λk h=>bk h (λm h=>aF d ([ay (oB G e)]++aR 3 c++[ay (hD G l),aN c,aN c]++aR 3 k++aR 5 m++[aN k,aN m,aN k]) (az h)) λm h=>au h λK o h=>aF d ([ay (oB G e)]++aR 3 c++[ay (hD G l),aN c,aN c]++aR 3 k++aX 4 m++[ay (Tz G o),aZ m,aN k,aZ m,aN k]) (az h)) λk h=>aF d ([ay (oB G e)]++aR 3 c++[ay (hD G l),aN c,aN c]++aX 5 k) (az h)) λc h=>aF d ([ay (oB G e)]++aX 5 c++ea 5) (az h)) λL h=>aD h (λB h=>?_) λB h=>?_))
 ·cases h;cases x
 exact aA (bY h λQ q R s h=>aw h▸ah d [ba [] [21,22] (UK G q),.z (.nat 23)] (aS d [.bs 21 0 [] [23]] (aS d [.bs 22 1 [] [23]] (ao (bK d bJ [ar (bO an s)] b2)))))
theorem rp(G:cL)(n:Nat)(p:Prog)(a:Int)(e:Int){r:Prog×Bool}(h:iv n p a e=aa r)(q:r.2=al):bn G 90 [V.agg (cH p),Y a,Y e] (V.bZ [V.agg [aJ a6 [],aJ an []],V.t T.gY,aY al]):=by
 refine bE aT func90 rfl λw X l=>ah l [.z (.b (ab)),.z (.nat 20)] (ao (b0 h (λs=>bz [(1,Y a),(3,V.aU (fc p)),(6,V.ref 20 0),(29,aY s)] [(20,E.cells [bB,bB])] [20]) (λB h=>?_) λC h=>?_))
 ·obtain⟨D,d,h⟩:=c9 h;refine bk h (λc h=>?_) λc h=>aF l ([ay (oB G d)]++aX 5 c++ea 5) (az h);obtain⟨F,k,h⟩:=c9 h;refine bk h (λi h=>?_) λi h=>aF l ([ay (oB G d)]++aR 3 c++[ay (hD G k),aN c,aN c]++aX 5 i) (az h);refine bk h (λm h=>aF l ([ay (oB G d)]++aR 3 c++[ay (hD G k),aN c,aN c]++aR 3 i++aR 5 m++[aN i,aN m,aN i]) (az h)) λm h=>?_;obtain⟨H,o,h⟩:=c9 h;exact aF l ([ay (oB G d)]++aR 3 c++[ay (hD G k),aN c,aN c]++aR 3 i++aX 4 m++[ay (Tz G o),aZ m,aN i,aZ m,aN i]) (az h)
 refine aD h (λx h=>?_) λx h=>?_
 ·cases h;exact ae l aG
 obtain⟨K,y,L,A,h⟩:=hZ h;cases h;cases q
theorem Ko(G:cL)(n:Nat)(a:aE)(c:Int)(h:q0 n a c=aa r):bn G 169 [V.agg (cF a),V.aU [T.int .i64 c]] (aY r):=bE aT func169 rfl λw X e=>ah e [.z (.b (ab))] (au h λi d h=>aw h▸ah e [a8 ai d] aG)
theorem Ll{l}{v}{r}(h:Et n l v=aa r):bn G 91 [V.agg (iz l),Y v] (aY r):=bE aT func91 rfl λw X d=>ah d [.z (.b (ab)),.z (.b (ab))] (ae d (b0 h (λk=>b4 [(4,aY k)]) (λm h=>au h λo c h=>bk h (λe h=>au h λp i h=>aF d ([ay (yA G n l.bo 169 [T.int .i64 v] (λa=>q0 n a v) (λa r h=>Ko G n a v h) c)]++aR 4 e++[ay (yA G n l.aL 169 [T.int .i64 v] (λa=>q0 n a v) (λa r h=>Ko G n a v h) i),aN e]) (az h)) λe h=>aF d ([ay (yA G n l.bo 169 [T.int .i64 v] (λa=>q0 n a v) (λa r h=>Ko G n a v h) c)]++aX 5 e) (az h)) λq h=>aw h▸aG))
theorem UR{p}{x}{r}(h:DS n p x=aa r):bn G 239 [V.agg (cH p),V.agg (jI x)] (V.agg (fT r)):=bE aT func239 rfl λw X d=>ah d [.z (.b (ab)),.z (.b (ab)),.z (.nat 20)] (ao (bY h λe a i c h=>aw h▸bK d bJ [a8 an a,a8 ax c] aG))
theorem T2{p}{x}{r}(h:DC n p x=aa r):b' G 181 [] [V.agg (cH p),V.agg (jI x)] (V.bZ [ms 0 1 1 ai r.1,Y r.2]) [aM 3 1 1 ai r.1]:=by refine cq aT func181 rfl λw X A a Q=>ah a [.z (.b (ab)),.z (.b (ab))] (au h λs k h=>ah a [ay (UR G k),.z (.nat 20)] (ae a (ao (au h λe l h=>ah a [ba [] [21] (M9 G n s.value l),aO eI e] (bu (aS a [.grow 7 22 3] (cT h (λm y=>bz [(2,V.aU (fc p)),(3,V.aU (cK x)),(6,V.ref 20 0),(7,ms 22 y 1 ai m.1),(15,ms 21 1 2 eI e),(16,Y (e.length:Int)),(17,Y m.2)] [(20,E.cells (fT s)),(21,aM 113 1 2 eI e),(22,aM 3 y 1 ai m.1)] [20,21,22]) 1 (aW) ?_)))))));rintro i ⟨B,C⟩ D h;exact ae a (dc h (λF h=>aA (bM (au h λR c h=>ah a [ar (bO eI c),bF eI c,.z (.nat 23)] (bY h λH o K q h=>aF a [ay (y5 G o),.z (.int 0),cu (cU ai q),dG B,dG [H]] (bt a ⟨(K,wr (C+1)),(D+1),h,aW⟩))))) λF h=>bG (au h λL d h=>aw h▸ah a [ay (y5 G d)] (ff a 4 22)))
theorem oU{p}{r}(h:p8 n p=aa r):bn G 115 [V.agg (cH p)] (V.bZ [Ep eC r.1,aY r.2]):=by unfold p8 at h;refine Sq aT func115 rfl rfl rfl rfl rfl (Ud _ _ _) rfl ?_;intro w X a;refine ah a [.z (.b (ab))] (au h λc o h=>ah a [ba [] [20] (Ss G o)] (ao (ae a (aD h (λA h=>aw h▸ae a aG) λA h=>aA (ah a [.z (.nat 21)] (ao (ah a [aO cK c.1] (bu (aS a [.ct 21 3 22 67] (aS a [.ct 21 4 23 3] (Cw (γ:=Nat×Nat) h (λd l=>bz [(1,V.aU (fc p)),(6,V.ref 21 0),(22,ms 20 1 3 cK c.1),(23,Y (c.1.length:Int)),(24,Y d.2.2)] [(20,aM 107 1 3 cK c.1),(21,E.cells [aJ a6 p.bb,aJ an p.parts,ms 20 1 3 cK c.1,ms 22 l.1 1 (bh ai) d.1,ms 23 l.2 1 ai d.2.1]),(22,aM 67 l.1 1 (bh ai) d.1),(23,aM 3 l.2 1 ai d.2.1)] [20,21,22,23]) (1,1) (aW) ?_)))))))))));rintro m ⟨B,C,D⟩ ⟨F,H⟩ h;exact ae a (dc h (λK h=>aA (bM (au h λL e h=>ah a [ar (bO cK e),bF cK e,.z (.nat 24)] (au h λy q h=>ah a [ba [] [25] (T2 G q)] (bY h λs i x k h=>bK a bJ [.z (.at 15),.z (.bT 25 [9,40] []),.z (.int 0),cu (cU (bh ai) i),.z (.int 0),ar (kQ (r:=(bh ai)) 1 (λ_=>rfl) B),ar (kQ (r:=(bh ai)) 1 (λ_=>rfl) [y.1]),cu (cU ai k),dG C,dG [y.2]] (bt a ⟨(s,x,wr (D+1)),((F+1),(H+1)),h,aW⟩)))))) λK h=>aw h▸bG (ae a (aS a [.bT 20 [22] [21],.bT 22 [] [21],.bT 23 [] [21],.sS 21 [2,6]] aG)))
theorem Lh(G:cL)(n:Nat)(b:List Int)(c:List Int)(h:EG n b c=aa r):bn G 238 [aJ ai b,aJ ai c] (aY r):=bE aT func238 rfl λw X a=>ae a (ao (ah a [aO ai b,aO ai c] (aD h (λk h=>aw h▸ae a aG) λk h=>aA (ao (ah a [aO ai b] (bu (cz h (λl=>b4 [(0,aJ ai b),(1,aJ ai c),(12,Y (b.length:Int)),(13,Y l)]) aW λd p h=>ae a (dc h (λm h=>aA (bM (ae a (ao (bY h λq e s i h=>bK a bJ [a8 ai e,a8 ai i] (aD h (λo h=>aw h▸ae a aG) λo h=>aA (bt a (az h)))))))) λm h=>aw h▸bG (ae a aG)))))))))
theorem Wa{s}{v}{r}(h:Fa n s v=aa r):bn G 245 [aJ ai s,Y v] (Y r):=bE aT func245 rfl λw X a=>ae a (ao (ah a [aO ai s] (bu (cz h (λd=>b4 [(0,aJ ai s),(1,Y v),(7,Y (s.length:Int)),(8,Y d)]) aW λb k h=>ae a (dc h (λe h=>aA (bM (ae a (au h λl c h=>ah a [a8 ai c] (aD h (λi h=>aw h▸ae a aG) λi h=>aA (bt a (az h))))))) λe h=>aw h▸bG (ae a aG))))))
theorem Ki{s}{v}{r}(h:vT n s v=aa r):bn G 189 [aJ ai s,Y v] (aY r):=bE aT func189 rfl λw X b=>ae b (au h λc a h=>aw h▸ah b [ay (Wa G a)] aG)
theorem UD{t}{a}{b}{r}(h:DG n t a b=aa r):bn G 182 [V.aU (eC t),Y a,Y b] (Y r):=bE aT func182 rfl λw X c=>ae c (ae c (b0 h (λd=>b4 [(0,V.aU (eC t)),(1,Y a),(2,Y b),(7,Y d)]) (λF h=>ao (cY h λH k K l L m h=>bK c bJ [a8 (bh ai) k,a8 ai l,ay (Ki G m)] (aD h (λs h=>bt c (az h)) λs h=>aA (az h)))) λQ h=>b0 h (λd=>b4 [(0,V.aU (eC t)),(1,Y a),(2,Y b),(7,Y d)]) (λR h=>ao (cY h λW o f p g q h=>bK c bJ [a8 (bh ai) o,a8 ai p,ay (Ki G q)] (aD h (λx h=>bt c (az h)) λx h=>aA (az h)))) λy h=>b0 h (λd=>b4 [(7,Y d)]) (λz h=>ao (bY h λA e B i h=>bK c bJ [a8 ai e,a8 ai i] (aD h (λC h=>bt c (az h)) λC h=>aA (az h)))) λD h=>aw h▸ae c aG))
theorem Kn{t}{r}(h:vV n t=aa r):b' G 116 [] [V.aU (eC t)] (ms 0 1 3 di r) [aM 109 1 3 di r]:=by
 refine cq aT func116 rfl λw X B a L=>ae a (ae a (ao (ah a [aO cK t.list] (bu (aS a [.grow 3 20 109] (cT h (λb c=>bz [(0,V.aU (eC t)),(3,ms 20 c 3 di b.1),(11,Y (t.list.length:Int)),(12,Y b.2)] [(20,aM 109 c 3 di b.1)] [20]) 1 (aW) ?_))))));rintro k ⟨Q,d⟩ C h;refine ae a (dc h (λD h=>?_) λD h=>?_)
 ·refine aA (bM (ae a (ae a (bu (cT h (λb c=>bz [(0,V.aU (eC t)),(3,ms 20 c 3 di b.1),(4,Y d),(5,Y b.2),(11,Y (t.list.length:Int)),(12,Y d)] [(20,aM 109 c 3 di b.1)] [20]) C (aW) ?_)))));rintro l ⟨m,o⟩ p h;refine ao (ah a [aO cK t.list] (aD h (λF h=>aA ?_) λF h=>bG (bt a ⟨(m,wr (d+1)),p,h,aW⟩)));obtain⟨H,q,h⟩:=nu h;refine mV (γ:=Nat) (j:=H) (r:=r) (λb c=>bz [(0,V.aU (eC t)),(3,ms 20 c 3 di b),(4,Y d),(5,Y o),(11,Y (t.list.length:Int)),(12,Y d)] [(20,aM 109 c 3 di b)] [20]) (bu (au h λs e h=>ah a [ay (UD G e)] (ae a (aD h (λK h=>au h λx i h=>aF a [.z (.int 0),cu (cU di i),b5 3 BH m,b5 3 BH [(⟨d,o,s⟩:fW)]] ⟨x,(p+1),h,aW⟩) λK h=>aA ⟨m,p,h,aW⟩)))) ?_;rintro y A h;subst q;exact bt a ⟨(y,wr (o+1)),A,h,aW⟩
 exact aw h▸bG (ae a (ff a 2 20))
theorem TD{x}{r}(h:DM n x=aa r):bn G 287 [Y x] (aY r):=bE aT func287 rfl λw X a=>aw h▸ae a (ae a aG)
theorem T0{x}{y}{r}(h:DB n x y=aa r):bn G 242 [Y x,Y y] (Y r):=bE aT func242 rfl λw X a=>ae a (au h λm b h=>ah a [ay (TD G b)] (au h λo c h=>ah a [ay (TD G c)] (ao (ae a (aD h (λd h=>ao (ae a (aD h (λe h=>aw h▸ae a aG) λe h=>aw h▸aA (ae a aG)))) λd h=>aA (ao (ae a (aD h (λi h=>aw h▸ae a aG) λi h=>aA (ao (ae a (aD h (λk h=>aw h▸ae a aG) λk h=>aA (ao (ae a (aD h (λl h=>aw h▸ae a aG) λl h=>aw h▸aA (ae a aG)))))))))))))))
theorem Vf{b}{c}{r}(h:KC n b c=aa r):bn G 183 [aJ ai b,aJ ai c] (Y r):=bE aT func183 rfl λw X a=>ae a (ao (ah a [aO ai b] (bu (cz h (λl=>b4 [(0,aJ ai b),(1,aJ ai c),(9,aJ ai b),(10,Y (b.length:Int)),(11,Y l)]) aW λd s h=>ae a (dc h (λm h=>aA (bM (au h λx e h=>ah a [a8 ai e] (ao (ah a [aO ai c] (aD h (λo h=>aw h▸ae a aG) λo h=>aA (au h λy i h=>ah a [a8 ai i] (au h λz k h=>ah a [ay (T0 G k)] (ae a (aD h (λp h=>aw h▸ae a aG) λp h=>aA (bt a (az h)))))))))))) λm h=>bG (ao (ah a [aO ai b,aO ai c] (aD h (λq h=>aw h▸ae a aG) λq h=>aw h▸aA (ae a aG)))))))))
theorem adh{r:List (List Int)}(h:mN x=aa r):(bj (bh ai) x).length=(bj (bh ai) r).length:=by
 unfold mN at h;split at h
 ·cases h;simp[fD]
 cases h
theorem US(G:cL)(n:Nat)(a:Int)(h:Kv n a=aa r):bn G 232 [Y a] (aY r):=bE aT func232 rfl λw X b=>aw h▸ae b (ae b aG)
theorem VP{d}{r}(h:Ee n d=aa r):bn G 172 [aJ ai d] (Y r):=bE aT func172 rfl λw X c=>ae c (au h λe a h=>aw h▸ah c [ay (TE G n d 232 (λb=>Kv n b) (λb r h=>US G n b h) a)] aG)
def ix:List dy:=[⟨67,1,[(0,1)]⟩,⟨3,1,[]⟩]
theorem adi{r:List (List Int)}(h:mN x=aa r): ∀l∈r,l.length<=1000000000:=by
 unfold mN at h;split at h
 ·rename_i b;exact aw h▸λl a=>b.2 l (by unfold fD at a;exact List.mem_mergeSort.1 a)
 cases h
theorem TR{t}{part}{r}(h:Ds n t part=aa r):b' G 231 [] [V.aU (eC t),Y part] (ms 0 1 1 (bh ai) r) [E.aC ix 0 1 (bj (bh ai) r) []]:=by
 refine cq aT func231 rfl λw X P a bV=>ae a (ae a (ao (au h λc K h=>ah a [ba [] [20] (Kn G K),aO di c] (bu (aS a [.grow 5 21 67,.b3 21 ix 0] (cT h (λb m=>bz [(0,V.aU (eC t)),(1,Y part),(5,ms 21 m 1 (bh ai) b.1),(13,ms 20 1 3 di c),(14,Y (c.length:Int)),(15,Y b.2)] [(20,aM 109 1 3 di c),(21,E.aC ix 0 m (bj (bh ai) b.1) [])] [20,21]) 1 (aW) ?_))))));rintro F ⟨l,H⟩ o h;refine ae a (dc h (λT h=>?_) λT h=>?_)
 ·refine aA ?_;obtain⟨Du,L,h⟩:=nu h;refine mV (γ:=Nat) (j:=Du) (r:=r) (λb m=>bz [(0,V.aU (eC t)),(1,Y part),(5,ms 21 m 1 (bh ai) b.1),(13,ms 20 1 3 di c),(14,Y (c.length:Int)),(15,Y H)] [(20,aM 109 1 3 di c),(21,E.aC ix 0 m (bj (bh ai) b.1) []),(22,E.cells [Y b.2.1,Y b.2.2.1,Y b.2.2.2.1]),(23,E.cells [Y b.2.2.2.2.1,Y b.2.2.2.2.2.1,aJ ai b.2.2.2.2.2.2.1]),(24,E.cells [Y b.2.2.2.2.2.2.2.1,Y b.2.2.2.2.2.2.2.2.1,aJ ai b.2.2.2.2.2.2.2.2.2])] [20,21,22,23,24]) ?_ ?_
  ·refine bu (au h λd s h=>ah a [ar (bO di s),bF di s,.z (.nat 22)] (ao (bY h λp Q k R h=>bK a bJ [a8 cK Q,a8 cK R,.z (.nat 23),.z (.nat 24)] (ao (b0 h (λb=>bz [(0,V.aU (eC t)),(1,Y part),(5,ms 21 o 1 (bh ai) l),(8,V.ref 23 0),(9,V.ref 24 0),(13,ms 20 1 3 di c),(14,Y (c.length:Int)),(15,Y H),(44,aY b)] [(20,aM 109 1 3 di c),(21,E.aC ix 0 o (bj (bh ai) l) []),(22,E.cells [Y d.eQ,Y d.eR,Y d.kinds]),(23,E.cells (jI p)),(24,E.cells (jI k))] [20,21,22,23,24]) (λSd h=>bk h (λW h=>aF a (aR 5 W) (az h)) λW h=>aF a (aX 5 W) (az h)) λz' h=>aD h (λfi h=>bG ⟨(l,d.eQ,d.eR,d.kinds,p.part,p.stmt,p.da,k.part,k.stmt,k.da),o,h,aW⟩) λfi h=>aA (ae a (ao (ah a [aO ai k.da] (bu (aS a [.grow 10 25 3] (cT h (λb m=>bz [(0,V.aU (eC t)),(1,Y part),(5,ms 21 o 1 (bh ai) l),(8,V.ref 23 0),(9,V.ref 24 0),(10,ms 25 m 1 ai b.1),(13,ms 20 1 3 di c),(14,Y (c.length:Int)),(15,Y H),(47,Y (k.da.length:Int)),(48,Y b.2)] [(20,aM 109 1 3 di c),(21,E.aC ix 0 o (bj (bh ai) l) []),(22,E.cells [Y d.eQ,Y d.eR,Y d.kinds]),(23,E.cells (jI p)),(24,E.cells (jI k)),(25,aM 3 m 1 ai b.1)] [20,21,22,23,24,25]) 1 (aW) ?_)))))))))));rintro x ⟨y,f⟩ g h;exact ae a (dc h (λh7 h=>aA (bM (ae a (cY h λu A v B I C h=>bK a bJ [a8 ai A,a8 ai B,.z (.int 0),cu (cU ai C),dG y,dG [wr (u-v)]] (bt a ⟨(I,wr (f+1)),(g+1),h,aW⟩))))) λh7 h=>bG (au h λq e h=>aF a [.z (.lt 26 ix 0),.z (.rows (bj (bh ai) (l++[([]:List Int)]))),ar (bc (U ix 0)),ar (lA (bh ai) ([]:List Int) e),ar (kQ (r:=(bh ai)) 1 (λ_=>rfl) l),ar (kQ (r:=(bh ai)) 1 (λ_=>rfl) [([]:List Int)])] ⟨(q,d.eQ,d.eR,d.kinds,p.part,p.stmt,p.da,k.part,k.stmt,k.da),(o+1),h,S.le.trans (yB a [.b3 25 ix 1,.cn 21 25 (bh ai ([]:List Int)) (bj (bh ai) q),.len 5 (bj (bh ai) q).length] (a5 (bc (y.map ai).length) (bc ix) (hb (bh ai) l ([]:List Int)) (ma (bh ai) (ph:=([]:List Int)) e rfl) (lB (bh ai) ([]:List Int) e))) (aW)⟩))
  rintro⟨M,r3,uh,ui,r4,xg,uj,EM,EN,KA⟩ N h;subst L;exact bt a ⟨(M,wr (H+1)),N,h,aW⟩
 exact bG (au h λD i h=>aw h▸ah a [ba [21] [] (G.D7 ix 0 1 rfl rfl l o i),.z (.len 5 (bj (bh ai) D).length),ar (adh i)] (ah a [ba [21] [] (G.Q0 ix 0 1 rfl rfl D o (adi i))] (aS a [.bs 21 0 [4] []] b2)))
theorem U2{p}{part}{r}(h:DX n p part=aa r):b' G 171 [] [V.agg (cH p),Y part] (ms 0 1 1 (bh ai) r) [E.aC ix 0 1 (bj (bh ai) r) []]:=cq aT func171 rfl λw X s a A=>ah a [.z (.b (ab))] (ao (au h λi c h=>bk h (λk h=>aF a [.z (.v (V.bZ [V.t T.gY,aY i.2])),ar (zW k (oU G c))] (ao (b0 h (λl=>b4 [(1,Y part),(5,V.t T.gY),(19,aY l)]) (λB h=>bk h (λd h=>au h λC m h=>aF a (aR 3 d++[ay (hD G m),aN d,aN d]) (az h)) λd h=>aF a (aX 5 d) (az h)) λD h=>aD h (λx h=>aw h▸ae a (aS a [.grow 4 0 67,.b3 0 ix 0] b2)) λx h=>aA (ao (iy h))))) λk h=>aF a [.z (.v (V.bZ [V.aU (eC (i.1.getD default)),aY i.2])),ar (zX k (oU G c))] (ao (b0 h (λl=>b4 [(1,Y part),(5,V.aU (eC (i.1.getD default))),(19,aY l)]) (λF h=>bk h (λe h=>au h λH o h=>aF a (aR 3 e++[ay (hD G o),aN e,aN e]) (az h)) λe h=>aF a (aX 5 e) (az h)) λK h=>aD h (λy h=>aw h▸ae a (aS a [.grow 4 0 67,.b3 0 ix 0] b2)) λy h=>aA (au h λL q h=>aw h▸ah a [ba [] [21] (TR G q)] (aS a [.bs 21 0 [4] []] b2))))))
theorem LC(G:cL)(n:Nat)(p:Prog)(m:Int)(C:FuncId)(o:List T)(f:List Int->Option (List Int))(R: ∀(D:List Int) (g:Nat) r,f D=aa r->b' G C [aM 3 g 1 ai D] [ms 0 g 1 ai D,V.aU o] (V.bZ []) [aM 3 g 1 ai r])(h:x5 n p m f=aa r):bn G 92 [V.agg (cH p),Y m,V.fn C [V.aU o]] (aY r):=by
 refine bE aT func92 rfl λw X c=>ah c [.z (.b (ab))] (ao (au h λK F h=>ah c [ba [] [20] (U2 G F),aO (bh ai) K] (bu (cz h (λH=>bz [(2,V.fn C [V.aU o]),(12,ms 20 1 1 (bh ai) H.1),(13,Y (K.length:Int)),(14,Y H.2)] [(20,E.aC ix 0 1 (bj (bh ai) H.1) [])] [20]) aW ?_))));rintro A ⟨L,i⟩ h;refine ae c (dc h (λW h=>?_) λW h=>?_)
 ·refine aA (bM (ao (au h λd x h=>aF c [.z (.cZ 20 21 (0+bp i) 0 (bh ai d)),.z (.row (bh ai d)),ar (bQ (bh ai) x),ar (bO (bh ai) x),ar (bQ (bh ai) x)] (aS c [.en 21] (ao (au h λe j h=>au h λu q h=>aF c [ba [21] [] (R d 1 _ j),.z (.len 8 (bj ai e).length),ar (jm ai q)] (ao (au h λk t h=>aF c [.z (.b (ab)),ay (VP G t)] (ao (au h λa l h=>bk h (λs h=>?_) λs h=>?_))))))))))
  ·refine aF c (aR 6 s) (dD (b:=al) (λB=>?_) λB=>aA (cV c [.b3 21 ix 1,.cn 20 21 (bh ai d) (bj (bh ai) a),.len 12 (bj (bh ai) a).length] (a5 (jm ai q) (bc ix) (bQ (bh ai) x) (g' (bh ai) l rfl) (cX (bh ai) l)) (bt c (az h))));cases B
  refine au h λy Q h=>aF c (aX 3 s++[ar (bO ai Q),aZ s,bF ai Q,aZ s,aZ s]) (aD h (λB h=>?_) λB h=>aA (cV c [.b3 21 ix 1,.cn 20 21 (bh ai d) (bj (bh ai) a),.len 12 (bj (bh ai) a).length] (a5 (jm ai q) (bc ix) (bQ (bh ai) x) (g' (bh ai) l rfl) (cX (bh ai) l)) (bt c (az h))));cases h;exact ae c aG
 cases h;exact bG (ae c aG)
theorem UN(G:cL)(n:Nat)(d:List Int)(k:Nat)(a:Int){r:(List Int)}(h:vL n d a=aa r):b' G 93 [aM 3 k 1 ai d] [ms 0 k 1 ai d,V.aU [T.int .i64 a]] (V.bZ []) [aM 3 k 1 ai r]:=cq aT func93 rfl λw X m o s=>cY h λx c y b p e h=>bY h λA i q l h=>aw h▸bK o bJ [ar (bO ai c),bF ai c,ar (bO ai b),bF ai b,ar (bO ai b),bF ai b,.z (.rows (p.map ai)),ar (str ai e),ar (IM ai i (cX ai e)),bF ai i,.z (.rows (q.map ai)),ar (str ai l)] qU
theorem Sz(G:cL)(n:Nat)(b:List Loop)(i:Int)(l:Loop)(D:aB b i=aa l)(g:Nat)(F:FuncId)(s:List T)(f:aE->Option aE)(j: ∀(t:aE) r,f t=aa r->bn G F [V.agg (cF t),V.aU s] (V.agg (cF r))){a:Loop}{o:List Loop}(h:tn n l f=aa a)(Q:ch b i a=aa o):
  b' G 104 [E.aC cg 1 g (b.map av) []] [V.cR 0 g 2 (0+bp i) 0,V.fn F [V.aU s]] (V.bZ []) [E.aC cg 1 g (bj av o) []]:=by
 refine cq aT func104 rfl λw X I c P=>ao (bK c bJ [.z (.cZ 0 21 (0+bp i) 0 (av l)),.z (.cZ 0 22 (0+bp i) 1 (av l)),bF av D,bF av D,.z (.lt 23 cg 4),.z (.nat 2),ar (bQ av D),ar (bQ av D),ar (bc 2)] (aS c [.en 21,.en 22] (bu (cz h (λp=>bz [(1,V.fn F [V.aU s]),(16,V.bd 23 1 1 0 2),(17,Y 2),(18,Y p.2)] [(0,E.aC cg 1 g (b.map av) [((0+bp i),1,ms 22 1 2 aq l.aL),((0+bp i),0,ms 21 1 2 aq l.bo)]),(23,E.aC cg 4 1 (dn 2 [T.bH []]) [(0,0,ms 21 1 2 aq l.bo),(1,0,ms 22 1 2 aq l.aL)]),(21,aM 92 1 2 aq p.1.bo),(22,aM 92 1 2 aq p.1.aL)] [0,21,22,23]) aW ?_))));rintro L ⟨x,q⟩ h;refine au h λS H h=>au h λU K h=>ae c (dc h (λM h=>?_) λM h=>?_)
 ·refine aA (bM (ao (bk h (λu h=>?_) λu h=>?_)))
  ·refine bk h (λv h=>iy h) λv h=>?_;have e:=e4 v;subst e;refine aF c [.z (.int 1),.z (.row [T.bH []]),ar (And.intro (by decide) (by decide):(0:Int)<=1/\(1:Int)<((2:Nat):Int)),ar (bc (aa [T.bH []]))] (cV c [.len 5 (x.aL.map aq).length] (aP (jm aq K)) (ah c [aO aq x.aL] (bu (cz h (λp=>bz [(1,V.fn F [V.aU s]),(16,V.bd 23 1 1 0 2),(17,Y 2),(18,Y 1),(5,ms 22 1 2 aq p.1),(22,ms 22 1 2 aq p.1),(23,Y (x.aL.length:Int)),(24,Y p.2)] [(0,E.aC cg 1 g (b.map av) [((0+bp i),1,ms 22 1 2 aq l.aL),((0+bp i),0,ms 21 1 2 aq l.bo)]),(23,E.aC cg 4 1 (dn 2 [T.bH []]) [(0,0,ms 21 1 2 aq l.bo),(1,0,ms 22 1 2 aq l.aL)]),(21,aM 92 1 2 aq x.bo),(22,aM 92 1 2 aq p.1)] [0,21,22,23]) aW ?_))));rintro A ⟨y,k⟩ h;exact ae c (dc h (λR h=>aA (bM (au h λW d h=>ah c [ar (bO aq d),bF aq d,.z (.nat 24)] (bY h λN B C m h=>aF c [ay (j W _ B),ar (bO aq d),bF aq d,.z (.rows (C.map aq)),.z (.len 5 (C.map aq).length),.z (.len 22 (C.map aq).length),ar (str aq m),ar (cX aq m),ar (cX aq m)] (bt c (az h)))))) λR h=>bG (bt c (az h)))
  have e:=e4 u;subst e;refine aF c [.z (.int 0),.z (.row [T.bH []]),ar (And.intro (by decide) (by decide):(0:Int)<=0/\(0:Int)<((2:Nat):Int)),ar (bc (aa [T.bH []]))] (cV c [.len 5 (x.bo.map aq).length] (aP (jm aq H)) (ah c [aO aq x.bo] (bu (cz h (λp=>bz [(1,V.fn F [V.aU s]),(16,V.bd 23 1 1 0 2),(17,Y 2),(18,Y 0),(5,ms 21 1 2 aq p.1),(22,ms 21 1 2 aq p.1),(23,Y (x.bo.length:Int)),(24,Y p.2)] [(0,E.aC cg 1 g (b.map av) [((0+bp i),1,ms 22 1 2 aq l.aL),((0+bp i),0,ms 21 1 2 aq l.bo)]),(23,E.aC cg 4 1 (dn 2 [T.bH []]) [(0,0,ms 21 1 2 aq l.bo),(1,0,ms 22 1 2 aq l.aL)]),(21,aM 92 1 2 aq p.1),(22,aM 92 1 2 aq x.aL)] [0,21,22,23]) aW ?_))));rintro A ⟨y,k⟩ h;exact ae c (dc h (λR h=>aA (bM (au h λW d h=>ah c [ar (bO aq d),bF aq d,.z (.nat 24)] (bY h λN B C m h=>aF c [ay (j W _ B),ar (bO aq d),bF aq d,.z (.rows (C.map aq)),.z (.len 5 (C.map aq).length),.z (.len 22 (C.map aq).length),ar (str aq m),ar (cX aq m),ar (cX aq m)] (bt c (az h)))))) λR h=>bG (bt c (az h)))
 obtain rfl:=aw h;exact cV c [.b3 21 cg 3,.b3 22 cg 3,.cn 0 22 (av l) (bj av (b.set i.toNat (⟨l.bo,x.aL⟩:Loop))),.cn 0 21 (av (⟨l.bo,x.aL⟩:Loop)) (bj av o)] (fI (jm aq K) (bc cg) (bQ av D) (g' av (xi Q (⟨l.bo,x.aL⟩:Loop)) rfl) (jm aq H) (bc cg) (bQ av (uF Q (⟨l.bo,x.aL⟩:Loop))) (g' av (xh Q (⟨l.bo,x.aL⟩:Loop)) rfl)) (bG qU)
theorem Sy(G:cL)(n:Nat)(a:List Loop)(i:Int)(l:Loop)(D:aB a i=aa l)(g:Nat)(F:FuncId)(p:List T)(s:List T)(f:aE->Option aE)(j: ∀(t:aE) r,f t=aa r->bn G F [V.agg (cF t),V.aU p,V.aU s] (V.agg (cF r))){u:Loop}{d:List Loop}(h:tn n l f=aa u)(Q:ch a i u=aa d):
  b' G 104 [E.aC cg 1 g (a.map av) []] [V.cR 0 g 2 (0+bp i) 0,V.fn F [V.aU p,V.aU s]] (V.bZ []) [E.aC cg 1 g (bj av d) []]:=by
 refine cq aT func104 rfl λw X M b S=>ao (bK b bJ [.z (.cZ 0 21 (0+bp i) 0 (av l)),.z (.cZ 0 22 (0+bp i) 1 (av l)),bF av D,bF av D,.z (.lt 23 cg 4),.z (.nat 2),ar (bQ av D),ar (bQ av D),ar (bc 2)] (aS b [.en 21,.en 22] (bu (cz h (λo=>bz [(1,V.fn F [V.aU p,V.aU s]),(16,V.bd 23 1 1 0 2),(17,Y 2),(18,Y o.2)] [(0,E.aC cg 1 g (a.map av) [((0+bp i),1,ms 22 1 2 aq l.aL),((0+bp i),0,ms 21 1 2 aq l.bo)]),(23,E.aC cg 4 1 (dn 2 [T.bH []]) [(0,0,ms 21 1 2 aq l.bo),(1,0,ms 22 1 2 aq l.aL)]),(21,aM 92 1 2 aq o.1.bo),(22,aM 92 1 2 aq o.1.aL)] [0,21,22,23]) aW ?_))));rintro L ⟨x,q⟩ h;refine au h λU H h=>au h λs2 K h=>ae b (dc h (λN h=>?_) λN h=>?_)
 ·refine aA (bM (ao (bk h (λv h=>?_) λv h=>?_)))
  ·refine bk h (λI h=>iy h) λI h=>?_;have e:=e4 I;subst e;refine aF b [.z (.int 1),.z (.row [T.bH []]),ar (And.intro (by decide) (by decide):(0:Int)<=1/\(1:Int)<((2:Nat):Int)),ar (bc (aa [T.bH []]))] (cV b [.len 5 (x.aL.map aq).length] (aP (jm aq K)) (ah b [aO aq x.aL] (bu (cz h (λo=>bz [(1,V.fn F [V.aU p,V.aU s]),(16,V.bd 23 1 1 0 2),(17,Y 2),(18,Y 1),(5,ms 22 1 2 aq o.1),(22,ms 22 1 2 aq o.1),(23,Y (x.aL.length:Int)),(24,Y o.2)] [(0,E.aC cg 1 g (a.map av) [((0+bp i),1,ms 22 1 2 aq l.aL),((0+bp i),0,ms 21 1 2 aq l.bo)]),(23,E.aC cg 4 1 (dn 2 [T.bH []]) [(0,0,ms 21 1 2 aq l.bo),(1,0,ms 22 1 2 aq l.aL)]),(21,aM 92 1 2 aq x.bo),(22,aM 92 1 2 aq o.1)] [0,21,22,23]) aW ?_))));rintro A ⟨y,k⟩ h;exact ae b (dc h (λR h=>aA (bM (au h λW c h=>ah b [ar (bO aq c),bF aq c,.z (.nat 24)] (bY h λP B C m h=>aF b [ay (j W _ B),ar (bO aq c),bF aq c,.z (.rows (C.map aq)),.z (.len 5 (C.map aq).length),.z (.len 22 (C.map aq).length),ar (str aq m),ar (cX aq m),ar (cX aq m)] (bt b (az h)))))) λR h=>bG (bt b (az h)))
  have e:=e4 v;subst e;refine aF b [.z (.int 0),.z (.row [T.bH []]),ar (And.intro (by decide) (by decide):(0:Int)<=0/\(0:Int)<((2:Nat):Int)),ar (bc (aa [T.bH []]))] (cV b [.len 5 (x.bo.map aq).length] (aP (jm aq H)) (ah b [aO aq x.bo] (bu (cz h (λo=>bz [(1,V.fn F [V.aU p,V.aU s]),(16,V.bd 23 1 1 0 2),(17,Y 2),(18,Y 0),(5,ms 21 1 2 aq o.1),(22,ms 21 1 2 aq o.1),(23,Y (x.bo.length:Int)),(24,Y o.2)] [(0,E.aC cg 1 g (a.map av) [((0+bp i),1,ms 22 1 2 aq l.aL),((0+bp i),0,ms 21 1 2 aq l.bo)]),(23,E.aC cg 4 1 (dn 2 [T.bH []]) [(0,0,ms 21 1 2 aq l.bo),(1,0,ms 22 1 2 aq l.aL)]),(21,aM 92 1 2 aq o.1),(22,aM 92 1 2 aq x.aL)] [0,21,22,23]) aW ?_))));rintro A ⟨y,k⟩ h;exact ae b (dc h (λR h=>aA (bM (au h λW c h=>ah b [ar (bO aq c),bF aq c,.z (.nat 24)] (bY h λP B C m h=>aF b [ay (j W _ B),ar (bO aq c),bF aq c,.z (.rows (C.map aq)),.z (.len 5 (C.map aq).length),.z (.len 22 (C.map aq).length),ar (str aq m),ar (cX aq m),ar (cX aq m)] (bt b (az h)))))) λR h=>bG (bt b (az h)))
 obtain rfl:=aw h;exact cV b [.b3 21 cg 3,.b3 22 cg 3,.cn 0 22 (av l) (bj av (a.set i.toNat (⟨l.bo,x.aL⟩:Loop))),.cn 0 21 (av (⟨l.bo,x.aL⟩:Loop)) (bj av d)] (fI (jm aq K) (bc cg) (bQ av D) (g' av (xi Q (⟨l.bo,x.aL⟩:Loop)) rfl) (jm aq H) (bc cg) (bQ av (uF Q (⟨l.bo,x.aL⟩:Loop))) (g' av (xh Q (⟨l.bo,x.aL⟩:Loop)) rfl)) (bG qU)
theorem TO(G:cL)(n:Nat)(a:cx)(d:FuncId)(c:List T)(change:aE->Option aE)(e: ∀(q:aE) r,change q=aa r->bn G d [V.agg (cF q),V.aU c] (V.agg (cF r))){r:cx}(h:rk n a change=aa r):bn G 233 [V.agg (gD a),V.fn d [V.aU c]] (V.agg (gD r)):=by refine bE aT func233 rfl λw X i=>ah i [.z (.b (ab)),.z (.nat 20)] (ah i [.z (.nat 21)] (ao (ah i [aO aq a.a7] (bu (aS i [.ct 21 1 22 92] (cT h (λl s=>bz [(1,V.fn d [V.aU c]),(4,V.ref 20 0),(5,V.ref 21 0),(12,aJ aq a.a7),(13,Y (a.a7.length:Int)),(14,Y l.2)] [(20,E.cells [cc [],bB]),(21,E.cells [cc a.array,ms 22 s 2 aq l.1]),(22,aM 92 s 2 aq l.1)] [20,21,22]) 1 (aW) ?_))))));rintro k ⟨x,y⟩ A h;refine ae i (dc h (λB h=>aA (bM (au h λC m h=>ah i [a8 aq m,.z (.nat 23)] (bY h λD o F p h=>bK i bJ [ay (e C _ o),.z (.int 0),cu (cU aq p),b5 2 fX x,b5 2 fX [D]] (bt i ⟨(F,wr (y+1)),(A+1),h,aW⟩))))) λB h=>?_);cases h;exact bG (ah i [.z (.at 2),.z (.bT 22 [] [21])] aG)
theorem VG(G:cL): ∀(n:Nat) (e:Expr) (c:FuncId) (a:List T) (change:aE->Option aE) (d: ∀(C:aE) r,change C=aa r->bn G c [V.agg (cF C),V.aU a] (V.agg (cF r))) {r:Expr} (h:j' n e change=aa r),bn G 234 [V.agg (ef e),V.fn c [V.aU a]] (V.agg (ef r)):=by
 intro n;induction n with
 |zero=>intro e c a change d r h;rw[j'.eq_def] at h;cases h
 |succ n F=>
  intro e c a change d r h;rw[j'.eq_def] at h;dsimp only at h;refine bE aT func234 rfl λw X i=>ah i [.z (.b (ab)),.z (.nat 20)] (ah i [.z (.nat 21)] (b0 h (λk=>bz [(1,V.fn c [V.aU a]),(2,V.aU (bm e)),(4,V.ref 20 0),(5,V.ref 21 0)] [(20,E.cells [Y 0,Y 0,bB,Y 0,cc [],bB,bB]),(21,E.cells [Y e.kind,Y e.num,aJ ai k.1,Y k.2.1,cc k.2.2.1,aJ aq k.2.2.2,bB])] [20,21]) (λt h=>?_) ?_))
  ·refine ae i (bu (ae i (aD h (λH h=>?_) λH h=>?_)))
   ·obtain⟨u,x,h⟩:=c9 h;exact aF i [ay (d e.index _ x)] (az h)
   refine ae i (aD h (λK h=>?_) λK h=>aA (az h));obtain⟨v,y,h⟩:=c9 h;exact aF i [ay (TO G n e.read c a change d y)] (az h)
  rintro⟨L,Q,R,W⟩ h;refine ao (ah i [aO aI e.a1] (bu (aS i [.ct 21 6 22 116] (cT h (λk D=>bz [(1,V.fn c [V.aU a]),(4,V.ref 20 0),(5,V.ref 21 0),(30,aJ aI e.a1),(31,Y (e.a1.length:Int)),(32,Y k.2)] [(20,E.cells [Y 0,Y 0,bB,Y 0,cc [],bB,bB]),(21,E.cells [Y e.kind,Y e.num,aJ ai L,Y Q,cc R,aJ aq W,ms 22 D 7 aI k.1]),(22,aM 116 D 7 aI k.1)] [20,21,22]) 1 (aW) ?_))));rintro o ⟨f,g⟩ A h;refine ae i (dc h (λj h=>?_) λj h=>?_)
  ·refine aA (bM ?_);obtain⟨l,p,h⟩:=c9 h;refine ah i [.z (.row (bm l)),.z (.nat 23),ar (fZ aI p (cQ l))] ?_;obtain⟨m,q,B,s,h⟩:=hZ h;exact bK i bJ [ay (F l c a change d q),.z (.int 2),.z (.rows (bj aI [m])),ar (se m),cu (cU aI s),b5 7 j5 f,b5 7 j5 [m]] (bt i ⟨(B,wr (g+1)),(A+1),h,aW⟩)
  cases h;exact bG (ah i [.z (.at 2),.z (.bT 22 [] [21])] aG)
theorem VE(G:cL)(n:Nat)(s:Stmt)(c:FuncId)(a:List T)(change:aE->Option aE)(d: ∀(k:aE) r,change k=aa r->bn G c [V.agg (cF k),V.aU a] (V.agg (cF r))){r:Stmt}(h:oQ n s change=aa r):bn G 173 [V.agg (fT s),V.fn c [V.aU a]] (V.agg (fT r)):=by refine bE aT func173 rfl λw X l=>ah l [.z (.b (ab)),.z (.nat 20)] (ao (bY h λm e o i h=>?_));cases h;exact bK l bJ [ay (TO G n s.write c a change d e),ay (VG G n s.value c a change d i)] aG
theorem TN(G:cL)(n:Nat)(a:cx)(e:FuncId)(c:List T)(d:List T)(change:aE->Option aE)(i: ∀(s:aE) r,change s=aa r->bn G e [V.agg (cF s),V.aU c,V.aU d] (V.agg (cF r))){r:cx}(h:rk n a change=aa r):bn G 233 [V.agg (gD a),V.fn e [V.aU c,V.aU d]] (V.agg (gD r)):=by refine bE aT func233 rfl λw X k=>ah k [.z (.b (ab)),.z (.nat 20)] (ah k [.z (.nat 21)] (ao (ah k [aO aq a.a7] (bu (aS k [.ct 21 1 22 92] (cT h (λm x=>bz [(1,V.fn e [V.aU c,V.aU d]),(4,V.ref 20 0),(5,V.ref 21 0),(12,aJ aq a.a7),(13,Y (a.a7.length:Int)),(14,Y m.2)] [(20,E.cells [cc [],bB]),(21,E.cells [cc a.array,ms 22 x 2 aq m.1]),(22,aM 92 x 2 aq m.1)] [20,21,22]) 1 (aW) ?_))))));rintro l ⟨y,A⟩ B h;refine ae k (dc h (λC h=>aA (bM (au h λD o h=>ah k [a8 aq o,.z (.nat 23)] (bY h λF p H q h=>bK k bJ [ay (i D _ p),.z (.int 0),cu (cU aq q),b5 2 fX y,b5 2 fX [F]] (bt k ⟨(H,wr (A+1)),(B+1),h,aW⟩))))) λC h=>?_);cases h;exact bG (ah k [.z (.at 2),.z (.bT 22 [] [21])] aG)
theorem VF(G:cL): ∀(n:Nat) (e:Expr) (d:FuncId) (a:List T) (c:List T) (change:aE->Option aE) (i: ∀(D:aE) r,change D=aa r->bn G d [V.agg (cF D),V.aU a,V.aU c] (V.agg (cF r))) {r:Expr} (h:j' n e change=aa r),bn G 234 [V.agg (ef e),V.fn d [V.aU a,V.aU c]] (V.agg (ef r)):=by
 intro n;induction n with
 |zero=>intro e d a c change i r h;rw[j'.eq_def] at h;cases h
 |succ n H=>
  intro e d a c change i r h;rw[j'.eq_def] at h;dsimp only at h;refine bE aT func234 rfl λw X k=>ah k [.z (.b (ab)),.z (.nat 20)] (ah k [.z (.nat 21)] (b0 h (λl=>bz [(1,V.fn d [V.aU a,V.aU c]),(2,V.aU (bm e)),(4,V.ref 20 0),(5,V.ref 21 0)] [(20,E.cells [Y 0,Y 0,bB,Y 0,cc [],bB,bB]),(21,E.cells [Y e.kind,Y e.num,aJ ai l.1,Y l.2.1,cc l.2.2.1,aJ aq l.2.2.2,bB])] [20,21]) (λu h=>?_) ?_))
  ·refine ae k (bu (ae k (aD h (λK h=>?_) λK h=>?_)))
   ·obtain⟨v,y,h⟩:=c9 h;exact aF k [ay (i e.index _ y)] (az h)
   refine ae k (aD h (λL h=>?_) λL h=>aA (az h));obtain⟨I,A,h⟩:=c9 h;exact aF k [ay (TN G n e.read d a c change i A)] (az h)
  rintro⟨Q,R,W,f⟩ h;refine ao (ah k [aO aI e.a1] (bu (aS k [.ct 21 6 22 116] (cT h (λl F=>bz [(1,V.fn d [V.aU a,V.aU c]),(4,V.ref 20 0),(5,V.ref 21 0),(30,aJ aI e.a1),(31,Y (e.a1.length:Int)),(32,Y l.2)] [(20,E.cells [Y 0,Y 0,bB,Y 0,cc [],bB,bB]),(21,E.cells [Y e.kind,Y e.num,aJ ai Q,Y R,cc W,aJ aq f,ms 22 F 7 aI l.1]),(22,aM 116 F 7 aI l.1)] [20,21,22]) 1 (aW) ?_))));rintro p ⟨g,j⟩ B h;refine ae k (dc h (λt h=>?_) λt h=>?_)
  ·refine aA (bM ?_);obtain⟨m,q,h⟩:=c9 h;refine ah k [.z (.row (bm m)),.z (.nat 23),ar (fZ aI q (cQ m))] ?_;obtain⟨o,s,C,x,h⟩:=hZ h;exact bK k bJ [ay (H m d a c change i s),.z (.int 2),.z (.rows (bj aI [o])),ar (se o),cu (cU aI x),b5 7 j5 g,b5 7 j5 [o]] (bt k ⟨(C,wr (j+1)),(B+1),h,aW⟩)
  cases h;exact bG (ah k [.z (.at 2),.z (.bT 22 [] [21])] aG)
theorem VD(G:cL)(n:Nat)(s:Stmt)(d:FuncId)(a:List T)(c:List T)(change:aE->Option aE)(e: ∀(l:aE) r,change l=aa r->bn G d [V.agg (cF l),V.aU a,V.aU c] (V.agg (cF r))){r:Stmt}(h:oQ n s change=aa r):bn G 173 [V.agg (fT s),V.fn d [V.aU a,V.aU c]] (V.agg (fT r)):=by refine bE aT func173 rfl λw X m=>ah m [.z (.b (ab)),.z (.nat 20)] (ao (bY h λo i p k h=>?_));cases h;exact bK m bJ [ay (TN G n s.write d a c change e i),ay (VF G n s.value d a c change e k)] aG
theorem Sx(G:cL)(n:Nat)(a:List Part)(i:Int)(p:Part)(m:aB a i=aa p)(g:Nat)(e:Int)(q:FuncId)(c:List T)(f:aE->Option aE)(R: ∀(W:aE) r,f W=aa r->bn G q [V.agg (cF W),V.aU c] (V.agg (cF r))){t:Part}(h:pB n p e f=aa t)(H:ch a i t=aa b):
  b' G 94 [E.aC cg 0 g (a.map an) []] [V.cR 0 g 2 (0+bp i) 0,Y e,V.fn q [V.aU c]] (V.bZ []) [E.aC cg 0 g (bj an b) []]:=by refine cq aT func94 rfl λw X v d S=>ao (ae d (cV d [.cZ 0 21 (0+bp i) 0 (an p),.cZ 0 22 (0+bp i) 1 (an p),.en 22] (a2 (bQ an m) (bQ an m)) (bu (cz h (λs=>bz [(0,V.cR 0 g 2 (0+bp i) 0),(2,V.fn q [V.aU c]),(6,Y s.2)] [(0,E.aC cg 0 g (a.map an) [((0+bp i),1,ms 22 1 9 ax p.body),((0+bp i),0,ms 21 1 2 av p.nest)]),(21,E.aC cg 1 1 (s.1.map av) []),(22,aM 118 1 9 ax p.body)] [0,21,22]) aW ?_))));rintro D ⟨x,k⟩ h;refine au h λU o h=>ao (ah d [bF an m,.z (.nat x.length),ar (QP av o)] (aD h (λI h=>aA (bM (cY h λM A js K nh L h=>aF d [bF an m,ar (C2 av o A),ba [21] [] (Sz G n x k M A 1 q c f R K L)] (bt d (az h))))) λI h=>bG (ah d [bF an m,aO ax p.body] (bu (cz h (λs=>bz [(0,V.cR 0 g 2 (0+bp i) 0),(2,V.fn q [V.aU c]),(30,ms 22 1 9 ax s.1),(31,Y (p.body.length:Int)),(32,Y s.2)] [(0,E.aC cg 0 g (a.map an) [((0+bp i),1,ms 22 1 9 ax p.body),((0+bp i),0,ms 21 1 2 av p.nest)]),(21,E.aC cg 1 1 (x.map av) []),(22,aM 118 1 9 ax s.1)] [0,21,22]) aW ?_)))));rintro F ⟨y,j⟩ h;refine au h λs2 B h=>ae d (dc h (λN h=>aA (bM (au h λP l h=>ah d [ar (bO ax l),bF ax l,.z (.nat 24)] (bY h λl7 Q u C h=>bK d bJ [bF an m,ay (VE G n P q c f R Q),ar (C2 ax B l),bF ax l,.z (.rows (u.map ax)),ar (str ax C)] (cV d [.len 30 (u.map ax).length] (aP (cX ax C)) (bt d (az h))))))) λN h=>?_);cases h;exact cV d [.b3 22 cg 2,.cn 0 22 (an p) (bj an (a.set i.toNat (⟨p.nest,y⟩:Part))),.cn 0 21 (an (⟨p.nest,y⟩:Part)) (bj an b)] (fI (jm ax B) (bc cg) (bQ an m) (g' an (xi H (⟨p.nest,y⟩:Part)) rfl) (jm av o) (bc cg) (bQ an (uF H (⟨p.nest,y⟩:Part))) (g' an (xh H (⟨p.nest,y⟩:Part)) rfl)) (bG qU)
theorem J8(G:cL)(n:Nat)(a:List Part)(i:Int)(p:Part)(o:aB a i=aa p)(g:Nat)(l:Int)(s:FuncId)(c:List T)(d:List T)(f:aE->Option aE)(W: ∀(t:aE) r,f t=aa r->bn G s [V.agg (cF t),V.aU c,V.aU d] (V.agg (cF r))){u:Part}(h:pB n p l f=aa u)(K:ch a i u=aa b):
  b' G 94 [E.aC cg 0 g (a.map an) []] [V.cR 0 g 2 (0+bp i) 0,Y l,V.fn s [V.aU c,V.aU d]] (V.bZ []) [E.aC cg 0 g (bj an b) []]:=by refine cq aT func94 rfl λw X I e U=>ao (ae e (cV e [.cZ 0 21 (0+bp i) 0 (an p),.cZ 0 22 (0+bp i) 1 (an p),.en 22] (a2 (bQ an o) (bQ an o)) (bu (cz h (λA=>bz [(0,V.cR 0 g 2 (0+bp i) 0),(2,V.fn s [V.aU c,V.aU d]),(6,Y A.2)] [(0,E.aC cg 0 g (a.map an) [((0+bp i),1,ms 22 1 9 ax p.body),((0+bp i),0,ms 21 1 2 av p.nest)]),(21,E.aC cg 1 1 (A.1.map av) []),(22,aM 118 1 9 ax p.body)] [0,21,22]) aW ?_))));rintro F ⟨x,k⟩ h;refine au h λs1 q h=>ao (ah e [bF an o,.z (.nat x.length),ar (QP av q)] (aD h (λM h=>aA (bM (cY h λN B js L nh Q h=>aF e [bF an o,ar (C2 av q B),ba [21] [] (Sy G n x k N B 1 s c d f W L Q)] (bt e (az h))))) λM h=>bG (ah e [bF an o,aO ax p.body] (bu (cz h (λA=>bz [(0,V.cR 0 g 2 (0+bp i) 0),(2,V.fn s [V.aU c,V.aU d]),(30,ms 22 1 9 ax A.1),(31,Y (p.body.length:Int)),(32,Y A.2)] [(0,E.aC cg 0 g (a.map an) [((0+bp i),1,ms 22 1 9 ax p.body),((0+bp i),0,ms 21 1 2 av p.nest)]),(21,E.aC cg 1 1 (x.map av) []),(22,aM 118 1 9 ax A.1)] [0,21,22]) aW ?_)))));rintro H ⟨y,j⟩ h;refine au h λs2 C h=>ae e (dc h (λP h=>aA (bM (au h λS m h=>ah e [ar (bO ax m),bF ax m,.z (.nat 24)] (bY h λl7 R v D h=>bK e bJ [bF an o,ay (VD G n S s c d f W R),ar (C2 ax C m),bF ax m,.z (.rows (v.map ax)),ar (str ax D)] (cV e [.len 30 (v.map ax).length] (aP (cX ax D)) (bt e (az h))))))) λP h=>?_);cases h;exact cV e [.b3 22 cg 2,.cn 0 22 (an p) (bj an (a.set i.toNat (⟨p.nest,y⟩:Part))),.cn 0 21 (an (⟨p.nest,y⟩:Part)) (bj an b)] (fI (jm ax C) (bc cg) (bQ an o) (g' an (xi K (⟨p.nest,y⟩:Part)) rfl) (jm av q) (bc cg) (bQ an (uF K (⟨p.nest,y⟩:Part))) (g' an (xh K (⟨p.nest,y⟩:Part)) rfl)) (bG qU)
theorem UM(G:cL)(n:Nat)(a:aE)(c:Int){r:aE}(h:vK n a c=aa r):bn G 95 [V.agg (cF a),V.aU [T.int .i64 c]] (V.agg (cF r)):=bE aT func95 rfl λw X i=>ah i [.z (.b (ab)),.z (.nat 20)] (au h λs o h=>ah i [ba [] [21] (vO G n a o),.z (.nat 22)] (ao (cY h λx k y d p e h=>bY h λA l q m h=>aw h▸bK i bJ [ar (bO ai k),bF ai k,ar (bO ai d),bF ai d,ar (bO ai d),bF ai d,.z (.rows (p.map ai)),ar (str ai e),ar (IM ai l (cX ai e)),bF ai l,.z (.rows (q.map ai)),ar (str ai m)] (cV i [.len 11 (p.map ai).length,.eY 22 0 (p.map ai).length,.eY 22 0 (q.map ai).length] (a3 (cX ai e) (cX ai e) (cX ai m)) (ah i [.z (.at 2),.z (.bT 21 [] [22])] aG)))))
theorem ack{r:List k}{j:Int}{x:k}(h:ch l i x=aa r)(a:aB l j=aa y)(b:0+i.toNat≠0+j.toNat):aB r j=aa y:=by obtain⟨_,_,rfl⟩:=tG h;obtain⟨c,d⟩:=kb a;unfold aB;rw[bg c,lp O];exact d
theorem afr{x:k}(h:aB l i=aa x)(b:aB l (wr (i+1))=aa y)(c: ¬(i<0)):0+bp i≠0+bp (wr (i+1)):=by
 intro e;have d:=kb b;have m:=(kb h).1;have a:wr (i+1)=i:=O
 unfold wr at a;rw[IntKind.wrap_i64] at a;omega
theorem Wk(G:cL)(n:Nat)(a:aE)(h:EI n a=aa r):bn G 235 [V.agg (cF a)] (aY r):=bE aT func235 rfl λw X d=>ah d [.z (.b (ab))] (au h λe c h=>aw h▸ah d [ay (sQ G c)] aG)
theorem Fi{a}{r}(h:Ai n a=aa r):bn G 174 [aJ aq a] (aY r):=bE aT func174 rfl λw X d=>ae d (au h λe b h=>aw h▸ah d [ay (ak7 G n a 235 (λc=>EI n c) (λc r h=>Wk G n c h) b)] aG)
theorem Kq{l}{r}(h:wm n l=aa r):bn G 98 [V.agg (iz l)] (V.bZ [Y r.1,Y r.2.1,aY r.2.2]):=bE aT func98 rfl λw X d=>ah d [.z (.b (ab))] (ao (b0 h (λp=>b4 [(1,V.aU (av l)),(26,aY p)]) (λs h=>bk h (λa h=>bk h (λc h=>au h λx e h=>bk h (λi h=>au h λy k h=>aF d ([aO aq l.bo]++aR 3 a++[aO aq l.aL,aN a,aN a]++aR 3 c++[ay (Fi G e),aN c,aN c]++aR 3 i++[ay (Fi G k),aN i,aN i]) (az h)) λi h=>aF d ([aO aq l.bo]++aR 3 a++[aO aq l.aL,aN a,aN a]++aR 3 c++[ay (Fi G e),aN c,aN c]++aX 5 i) (az h)) λc h=>aF d ([aO aq l.bo]++aR 3 a++[aO aq l.aL,aN a,aN a]++aX 5 c++ea 5) (az h)) λa h=>aF d ([aO aq l.bo]++aX 5 a++ea 10) (az h)) λA h=>aD h (λq h=>aw h▸ae d aG) λq h=>aA (ao (bY h λB m C o h=>aw h▸bK d bJ [a8 aq m,a8 aq o] aG))))
theorem UJ(G:cL)(n:Nat)(d:List Int)(c:Nat)(a:Int){r:(List Int)}(h:vJ n d a=aa r):b' G 99 [aM 3 c 1 ai d] [ms 0 c 1 ai d,V.aU [T.int .i64 a]] (V.bZ []) [aM 3 c 1 ai r]:=cq aT func99 rfl λw X i k m=>bY h λo b l e h=>aw h▸bK k bJ [ar (bO ai b),bF ai b,ar (bO ai b),bF ai b,.z (.rows (l.map ai)),ar (str ai e)] qU
theorem wq{a}{r}(h:pU n a=aa r):b' G 109 [] [Y a] (V.agg [ms 0 1 1 ai r.aK,Y r.const]) [aM 3 1 1 ai r.aK]:=cq aT func109 rfl λw X d c e=>ah c [.z (.nat 20)] (au h λi b h=>aw h▸ah c [.z (.nat 21),cu (lZ ai b),ar (ka b).1] (aS c [.bs 21 0 [] [20]] b2))
end
variable (G:cL){n:Nat}
theorem tu{v}{k}{r}(h:nI n v k=aa r):b' G 100 [] [Y v,Y k] (V.agg [ms 0 1 1 ai r.aK,Y r.const]) [aM 3 1 1 ai r.aK]:=cq aT func100 rfl λw X i a l=>ah a [.z (.nat 20)] (au h λm d h=>ah a [ba [] [21] (wq G d),.z (.nat 22)] (bY h λo b e c h=>aw h▸ah a [ar (bO ai b),bF ai b,.z (.rows (e.map ai)),.z (.eY 22 0 (e.map ai).length),ar (str ai c),ar (cX ai c)] (ae a (aS a [.bs 21 0 [] [20,22]] b2))))
theorem Cj{a}{k}{b}{r}(h:sA n a k b=aa r):b' G 106 [] [V.agg (cF a),Y k,V.agg (cF b)] (V.agg [ms 0 1 1 ai r.aK,Y r.const]) [aM 3 1 1 ai r.aK]:=by refine cq aT func106 rfl λw X s c C=>ah c [.z (.b (ab)),.z (.b (ab)),.z (.nat 20)] (au h λx l h=>ah c [ba [] [21] (vO G n a l),.z (.nat 22)] (ao (ah c [aO ai b.aK] (bu (cT h (λm q=>bz [(1,Y k),(5,V.aU (aq b)),(6,V.ref 20 0),(7,V.ref 22 0),(13,aJ ai b.aK),(14,Y (b.aK.length:Int)),(15,Y m.2)] [(20,E.cells [bB,Y 0]),(21,aM 3 q 1 ai m.1),(22,E.cells [ms 21 q 1 ai m.1,Y x.const])] [20,21,22]) 1 (aW) ?_)))));rintro i ⟨D,y⟩ A h;exact ae c (dc h (λB h=>aA (bM (au h λF o h=>ah c [a8 ai o] (bY h λH d p e h=>aF c [ar (bO ai d),bF ai d,ar (bO ai d),bF ai d,.z (.rows (p.map ai)),.z (.eY 22 0 (p.map ai).length),ar (str ai e),ar (cX ai e)] (bt c ⟨(p,wr (y+1)),A,h,aW⟩))))) λB h=>aw h▸bG (ae c (ae c (aS c [.bs 21 0 [] [20,22]] b2))))
theorem Gq{a}{v}{b}{r}(h:uz n a v b=aa r):b' G 102 [] [V.agg (cF a),Y v,V.agg (cF b)] (V.agg [ms 0 1 1 ai r.aK,Y r.const]) [aM 3 1 1 ai r.aK]:=cq aT func102 rfl λw X m d o=>ah d [.z (.b (ab)),.z (.b (ab)),.z (.nat 20)] (au h λp i h=>ah d [ba [] [21] (vO G n a i),.z (.nat 22)] (au h λq c h=>ah d [ar (bO ai c),bF ai c] (au h λl e h=>ah d [ar (bO ai c),bF ai c,.z (.rows (l.map ai)),.z (.eY 22 0 (l.map ai).length),ar (str ai e),ar (cX ai e)] (au h λs k h=>aw h▸ah d [.z (.at 5),.z (.bT 21 [] [22]),ba [] [23] (Cj G k)] (aS d [.bs 23 0 [] [20]] b2)))))
variable {r:aE}{k:Type}{l x:List k}{o:Nat}{a:TypeInfo}{z:Value}
theorem UI(G:cL)(n:Nat)(a:aE)(c:Int)(d:aE)(h:vI n a c d=aa r):bn G 101 [V.agg (cF a),V.aU [T.int .i64 c],V.aU (aq d)] (V.agg (cF r)):=bE aT func101 rfl λw X e=>ah e [.z (.b (ab)),.z (.nat 20)] (au h λk i h=>aw h▸ah e [ba [] [21] (Gq G i)] (aS e [.bT 21 [] [20]] aG))
theorem MK{a}{r}(h:xQ n a=aa r):bn G 103 [Y a] (aY r):=bE aT func103 rfl λw X c=>ae c (au h λd b h=>aw h▸ah c [ay (fY G b)] aG)
theorem VL(G:cL)(n:Nat)(a:aE)(c:Int)(d:Int)(h:zr n a c d=aa r):bn G 105 [V.agg (cF a),V.aU [T.int .i64 c],V.aU [T.int .i64 d]] (V.agg (cF r)):=bE aT func105 rfl λw X e=>ah e [.z (.b (ab)),.z (.nat 20)] (ao (bY h λl i m k h=>aw h▸bK e bJ [ba [] [21] (tu G i),.z (.at 2),.z (.bT 21 [8] []),ba [] [22] (Cj G k)] (aS e [.bT 22 [] [20]] aG)))
theorem VK(G:cL)(n:Nat)(a:aE)(c:Int)(d:aE)(h:wk n a c d=aa r):bn G 107 [V.agg (cF a),V.aU [T.int .i64 c],V.aU (aq d)] (V.agg (cF r)):=bE aT func107 rfl λw X e=>ah e [.z (.b (ab)),.z (.nat 20)] (au h λk i h=>aw h▸ah e [ba [] [21] (Gq G i)] (aS e [.bT 21 [] [20]] aG))
theorem Vn(G:cL)(n:Nat)(a:aE)(c:Int)(h:zh n a c=aa r):bn G 108 [V.agg (cF a),V.aU [T.int .i64 c]] (V.agg (cF r)):=bE aT func108 rfl λw X d=>ah d [.z (.b (ab)),.z (.nat 20)] (ao (bY h λk e l i h=>aw h▸bK d bJ [ba [] [21] (wq G e),.z (.at 2),.z (.bT 21 [6] []),ba [] [22] (Cj G i)] (aS d [.bT 22 [] [20]] aG)))
theorem Vm(G:cL)(n:Nat)(a:aE)(c:Int)(d:aE)(h:wa n a c d=aa r):bn G 110 [V.agg (cF a),V.aU [T.int .i64 c],V.aU (aq d)] (V.agg (cF r)):=bE aT func110 rfl λw X e=>ah e [.z (.b (ab)),.z (.nat 20)] (au h λk i h=>aw h▸ah e [ba [] [21] (Gq G i)] (aS e [.bT 21 [] [20]] aG))
theorem ad9(f:k->List T){m:Nat}(b:o<l.length)(a:m=l.length-o):o+m<=(l.map f).length/\(sK l o x).map f=(l.map f).take o++(x.map f).take (Nat.min (x.map f).length m)++(l.map f).drop (o+Nat.min (x.map f).length m):=by subst a;refine⟨by rw[dH];omega,?_⟩;unfold sK;rw[ib,ib,qh,qh,List.map_drop,dH]
theorem OD(f:k->List T)(a:o<l.length):(l.map f).length=((sK l o x).map f).length:=by
 unfold sK;simp only[List.length_map,List.length_append,List.length_take,List.length_drop]
 have:Nat.min x.length (l.length-o)=min x.length (l.length-o):=rfl;omega
theorem Vj(G:cL)(n:Nat)(a:aE)(c:Int)(h:v' n a c=aa r):bn G 112 [V.agg (cF a),V.aU [T.int .i64 c]] (V.agg (cF r)):=by
 refine bE aT func112 rfl λw X e=>ah e [.z (.b (ab)),.z (.nat 20)] (au h λd y h=>ah e [ba [] [21] (vO G n a y),.z (.nat 22)] (iQ (aj ((0:Int)<=wr (c+1))) (λq=>?_) λq=>?_))
 ·have h:=gz q h;exact iy h
 have h:=gQ q h;refine iQ (aj (wr (c+1)<(d.aK.length:Int))) (λs=>?_) λs=>?_
 ·have h:=gz s h;exact iy h
 have h:=gQ s h;have C:=e4 q;have D:=e4 s;exact cY h λi A F k B p h=>aw h▸ao (bK e bJ [.z (.nat (wr (c+1)).toNat),.z (.nat (d.aK.length-(wr (c+1)).toNat)),ar (GU ai d.aK C D),cu (pY ai A),.z (.rows (bj ai (sK d.aK (wr (c+1)).toNat i))),.z (.nat (Nat.min (i.map ai).length (d.aK.length-(wr (c+1)).toNat))),dG a.aK,dG i,ar (ad9 ai (l:=d.aK) (x:=i) (o:=(wr (c+1)).toNat) (m:=d.aK.length-(wr (c+1)).toNat) O rfl)] (ah e [ar (IM ai k (OD ai (l:=d.aK) (x:=i) (o:=(wr (c+1)).toNat) O)),bF ai k,.z (.rows (B.map ai)),.z (.eY 22 0 (B.map ai).length),ar (str ai p),ar ((OD ai (l:=d.aK) (x:=i) (o:=(wr (c+1)).toNat) O).trans (cX ai p))] (aS e [.bT 21 [] [22]] (ae e aG))))
open Go.RowKit Go.Lib in
set_option maxHeartbeats 4000000 in
set_option maxRecDepth 100000 in
theorem Wq(b n c i d m s:Nat)(l vs:List Value)(w:World)(aL:i<n)(hm:0<m)(L:n+m<=c)(V:c<=9223372036854775807)(y:d≠b)
  (Q:l.length=n*2) (R:vs.length=m*2)
  (X: ∀j v,l[j]? =aa v->w.cell? ⟨b,j,ak⟩=aa v) (q: ∀j,j<(n+m)*2->(w.cell? ⟨b,j,ak⟩).isSome=ab) (z: ∀j,w.frozen? ⟨b,j,ak⟩=al)
  (f: ∀j v,vs[j]? =aa v->w.cell? ⟨d,j,ak⟩=aa v) (g: ∀v∈l,v.oneCell'=ab) (t: ∀v∈vs,v.oneCell'=ab)
  (Y tS:TypeId) (u E:Nat) (I:w.shape? d=aa (Y,u)) (M:w.shape? b=aa (tS,E)) (N:E≠0) (A: ∀j,w.frozen? ⟨d,j,ak⟩=al):
  Calls prog 113 #[.slice (aa ⟨b,0,ak⟩) n c,.int .i64 i,.slice (aa ⟨d,0,ak⟩) m s] w λe w'=>
   e= .returned (.slice (aa ⟨b,0,ak⟩) (n+m) c)/\w'=(w.drew.setCells b ((i+m)*2) (l.drop (i*2))).setCells b (i*2) vs:=by
 have yY: ¬((m:Int)=0):=O
 have pK: ¬((i:Int)=(n:Int)):=O
 have mG:IntKind.i64.wrap ((i:Int)+(m:Int))=(i:Int)+(m:Int):=by rw[IntKind.wrap_i64];omega
 have k9:(0:Int)<=(i:Int)+(m:Int):=O
 have kK:i<=n:=O
 have JN:((i:Int)+(m:Int)).toNat=i+m:=O
 have vx: ¬(c=i+m):=O
 have yM:(i:Int)<=(n:Int)+(m:Int):=O
 have agW: ¬(c=i):=O
 have P: ∀S T,(callFunc 175 #[.slice (aa ⟨d,0,ak⟩) m s,.slice (aa ⟨b,(i+m)*2,ak⟩) S T]).run prog w= .ok (.value (.bool al)) w:=λS T=>by
  rw[run_callFunc_extern func175 J J J (e:=Extern.SlicesOverlaps.overlaps #[83,83] #[4]) J,
   Lib.run_overlaps_apart w 83 4 82 underlying83 2 sizeOf82 ⟨d,0,ak⟩ ⟨b,(i+m)*2,ak⟩ m s S T y Y tS u E I M N (A 0) (A u)]
  rfl
 have B:(l.drop (i*2)).length=(n-i)*2:=by rw[fN,Q];omega
 have C:(prog.info? 82).map (·.size)=aa 2:=J
 have p: ∀ty r ki,(Builtin.copy_ #[83,83] ty #[.slice (aa ⟨b,(i+m)*2,ak⟩) (n+m-(i+m)) r,.slice (aa ⟨b,i*2,ak⟩) (n+m-i) ki]).run prog w.drew= .ok (goInt ((n-i:Nat):Int)) (w.drew.setCells b ((i+m)*2) (l.drop (i*2))):=λty r ki=>
  ru w.drew 83 83 ty 82 2 b ((i+m)*2) (n+m-(i+m)) r ⟨b,i*2,ak⟩ (n+m-i) ki (n-i) (l.drop (i*2)) underlying83 C (by simp only[Nat.min_def];split<;>omega) B
   (λj v o=>by rw[Addr.add_lit];exact X (i*2+j) v (by rwa [fv] at o))
   (λj o=>q _ O) (λj o=>z _) λv bx=>g v (ft bx)
 obtain⟨D,a⟩: ∃D,D=w.drew.setCells b ((i+m)*2) (l.drop (i*2)):=⟨_,rfl⟩
 have F: ∀k,k<(n+m)*2->(D.cell? ⟨b,k,ak⟩).isSome=ab:=λk hk=>by
  rw[a];exact DE b (l.drop (i*2)) ((i+m)*2) w.drew (λj o=>q _ (by rw[B] at o;omega)) k (q k hk)
 have H: ∀(W:World),(∀x,W.cell? x=D.cell? x)->(∀x,W.frozen? x=D.frozen? x)-> ∀ty r,(Builtin.copy_ #[83,83] ty #[.slice (aa ⟨b,i*2,ak⟩) (n+m-i) r,.slice (aa ⟨d,0,ak⟩) m s]).run prog W= .ok (goInt m) (W.setCells b (i*2) vs):=λW K U ty r=>
  ru W 83 83 ty 82 2 b (i*2) (n+m-i) r ⟨d,0,ak⟩ m s m vs underlying83 C (by simp only[Nat.min_def];split<;>omega) R
   (λj v o=>by
    rw[Addr.add_lit,dA,K,a,World.cell?_setCells_out b _ _ _ _ λh _=>br h y];exact f j v o)
   (λj o=>by rw[K];exact F _ O) (λj o=>by rw[U,a,World.frozen?_setCells];exact z _) t
 rw[<-a] at p
 go_enter func113,Tryz.ntmps113
 go_wp2_with (simp only[P])
 go_region_law (refine DQ rfl _ _ 83 83 rfl _ _ (by simp[Act.eval,Act.put]) (by simp[Act.eval,Act.put]) (p _ _ _) ?_)
 go_wp2_with (at_builtin;refine vl _ rfl _ _ 83 83 rfl _ _ rfl rfl (H _ (λ_=>rfl) (λ_=>rfl) _ _) ?_)
 go_ret
 first|exact⟨rfl,rfl⟩|exact⟨rfl,by rw[a]⟩
open Go.RowKit Go.Lib in
set_option maxHeartbeats 4000000 in
set_option maxRecDepth 100000 in
theorem Wu(b n c i y m S:Nat)(k l:List Value)(w:World)(aL:i<n)(hm:0<m)(ahB:n<=c)(C:c<n+m)(D:TypeInfo)(z:Value)(Q:prog.info? 82=aa D)(T:D.zero=aa z)(R:D.size=2)(U:z.cells.size=2)(hle:n+m<=1000000000)(X:(n+m)*D.bytes<=140737488355328)
  (V:k.length=n*2) (f:l.length=m*2)
  (F: ∀j v,k[j]? =aa v->w.cell? ⟨b,j,ak⟩=aa v)
  (g: ∀j v,l[j]? =aa v->w.cell? ⟨y,j,ak⟩=aa v) (Y: ∀v∈k,v.oneCell'=ab) (pD: ∀v∈l,v.oneCell'=ab):
  Calls prog 113 #[.slice (aa ⟨b,0,ak⟩) n c,.int .i64 i,.slice (aa ⟨y,0,ak⟩) m S] w λe w'=>
   e= .returned (.slice (aa ⟨w.heap.size,0,ak⟩) (n+m) (grownCap w (n+m) c 82))/\
   w'=(((w.alloc (.cells ((k.take (i*2)).toArray++ei z.cells (n+m-i)++ei z.cells (grownCap w (n+m) c 82-(n+m))) 82)).drew.setCells w.heap.size (i*2) l).drew).setCells w.heap.size ((i+m)*2) (k.drop (i*2)):=by
 have yY: ¬((m:Int)=0):=O
 have pK: ¬((i:Int)=(n:Int)):=O
 have aif:(c:Int)<(n:Int)+(m:Int):=O
 have u:(prog.info? 82).map (·.size)=aa 2:=by rw[Q];simp[R]
 have Ju:b<w.heap.size:=block_lt_of_cell (F 0 _ (bD O));have JR:y<w.heap.size:=block_lt_of_cell (g 0 _ (bD O));have E:(n:Int)+(m:Int)-(i:Int)=((n+m-i:Nat):Int):=O
 have H:i+(n+m-i)=n+m:=O
 have A:(Builtin.firstCells D.size i (.slice (aa ⟨b,0,ak⟩) i c)).run prog w.drew= .ok (k.take (i*2)).toArray w.drew:=by
  rw[R];exact run_firstCells_some w.drew 2 i ⟨b,0,ak⟩ i c (k.take (i*2)) (by rw[c8];omega) (λj v d=>by
   rw[Addr.add_lit,dA];rw[fs] at d;split at d
   ·exact F j v d
   cases d)
 have s: ∀ty,(Builtin.append_ #[83,3] ty #[.slice (aa ⟨b,0,ak⟩) i c,.int .i64 ((n:Int)+(m:Int)-(i:Int))]).run prog w=
   .ok (.slice (aa ⟨w.heap.size,0,ak⟩) (n+m) (grownCap w (n+m) c 82)) (w.drew.alloc (.cells ((k.take (i*2)).toArray++ei z.cells (n+m-i)++ei z.cells (grownCap w (n+m) c 82-(n+m))) 82)):=λty=>by
  have h:=Lib.run_append_grow_zeros w 83 3 ty 82 D z .i64 .i64 underlying83 underlying3 Q T (aa ⟨b,0,ak⟩) i c (k.take (i*2)) A (n+m-i) O O O O (by
   have:=dR D.bytes (O:n+m-i<=n+m);omega) (by rw[H];exact growslice_fits C X)
  rw[H] at h;rw[E];exact h
 obtain⟨G,P⟩: ∃G,G=grownCap w (n+m) c 82:=⟨_,rfl⟩
 obtain⟨a,p⟩: ∃a:Array Value,a=(k.take (i*2)).toArray++ei z.cells (n+m-i)++ei z.cells (G-(n+m)):=⟨_,rfl⟩
 rw[<-P] at s⊢;rw[<-p] at s⊢;have oH:(n+m)*2<=a.size:=by
  rw[p];simp[ei,U];omega
 obtain⟨q,o⟩: ∃q,q=w.drew.alloc (.cells a 82):=⟨_,rfl⟩
 rw[<-o] at s;have f': ∀j,j<(n+m)*2->(q.cell? ⟨w.heap.size,j,ak⟩).isSome=ab:=λj d=>by
  rw[o,World.cell?_alloc_at (w:=w.drew) a _ w.heap.size j rfl,hR O];rfl
 have I: ∀j,q.frozen? ⟨w.heap.size,j,ak⟩=al:=λj=>by rw[o];exact World.frozen?_alloc_at (w:=w.drew) a _ w.heap.size j rfl
 have Jo: ∀j v,w.cell? ⟨b,j,ak⟩=aa v->q.cell? ⟨b,j,ak⟩=aa v:=λj v h=>by rw[o,World.cell?_alloc_past (w:=w.drew) _ b j Ju];exact h
 have Jp: ∀j v,w.cell? ⟨y,j,ak⟩=aa v->q.cell? ⟨y,j,ak⟩=aa v:=λj v h=>by rw[o,World.cell?_alloc_past (w:=w.drew) _ y j JR];exact h
 have M: ∀(W:World),(∀x,W.cell? x=q.cell? x)->(∀x,W.frozen? x=q.frozen? x)-> ∀ty K,(Builtin.copy_ #[83,83] ty #[.slice (aa ⟨w.heap.size,i*2,ak⟩) (n+m-i) K,.slice (aa ⟨y,0,ak⟩) m S]).run prog W= .ok (goInt m) (W.setCells w.heap.size (i*2) l):=λW r L ty K=>
  ru W 83 83 ty 82 2 w.heap.size (i*2) (n+m-i) K ⟨y,0,ak⟩ m S m l underlying83 u (by simp only[Nat.min_def];split<;>omega) f
   (λj v d=>by rw[Addr.add_lit,dA,r];exact Jp _ v (g j v d))
   (λj d=>by rw[r];exact f' _ O) (λj d=>by rw[L];exact I _) pD
 have Jk:n+m<=G:=by rw[P];exact grownCap_ge w _ _ _
 have agL:G<=9223372036854775807:=by
  have:=grownCap_le_maxLen w (n+m) c 82 (by unfold maxLen;omega);rw[<-P] at this;unfold maxLen at this;omega
 have agM: ¬(G=i):=O
 have agN: ¬(G=i+m):=O
 have agZ: ¬(c=i):=O
 have Js:b≠w.heap.size:=O
 have N:(k.drop (i*2)).length=(n-i)*2:=by rw[fN,V];omega
 have B: ∀(W:World),(∀x,W.cell? x=(q.setCells w.heap.size (i*2) l).cell? x)->(∀x,W.frozen? x=(q.setCells w.heap.size (i*2) l).frozen? x)-> ∀ty K ki,(Builtin.copy_ #[83,83] ty #[.slice (aa ⟨w.heap.size,(i+m)*2,ak⟩) (n+m-(i+m)) K,.slice (aa ⟨b,i*2,ak⟩) (n-i) ki]).run prog W= .ok (goInt ((n-i:Nat):Int)) (W.setCells w.heap.size ((i+m)*2) (k.drop (i*2))):=λW r L ty K ki=>
  ru W 83 83 ty 82 2 w.heap.size ((i+m)*2) (n+m-(i+m)) K ⟨b,i*2,ak⟩ (n-i) ki (n-i) (k.drop (i*2)) underlying83 u (by simp only[Nat.min_def];split<;>omega) N
   (λj v d=>by
    rw[Addr.add_lit,r,World.cell?_setCells_out _ _ _ _ _ λh _=>br h Js];exact Jo _ v (F (i*2+j) v (by rwa [fv] at d)))
   (λj d=>by rw[r];exact DE w.heap.size l (i*2) q (λt fo=>f' _ (by rw[f] at fo;omega)) _ (f' _ (by rw[N] at d;omega)))
   (λj d=>by rw[L,World.frozen?_setCells];exact I _) λv bx=>Y v (ft bx)
 subst o;have Ji: ∀x,((w.alloc (.cells a 82)).drew).cell? x=(w.drew.alloc (.cells a 82)).cell? x:=λx=>rfl;have Jj: ∀x,((w.alloc (.cells a 82)).drew).frozen? x=(w.drew.alloc (.cells a 82)).frozen? x:=λx=>rfl;have sV: ∀x,(((w.alloc (.cells a 82)).drew.setCells w.heap.size (i*2) l).drew).cell? x=((w.drew.alloc (.cells a 82)).setCells w.heap.size (i*2) l).cell? x:=λx=>rfl;have sW: ∀x,(((w.alloc (.cells a 82)).drew.setCells w.heap.size (i*2) l).drew).frozen? x=((w.drew.alloc (.cells a 82)).setCells w.heap.size (i*2) l).frozen? x:=λx=>rfl;have mG:IntKind.i64.wrap ((i:Int)+(m:Int))=(i:Int)+(m:Int):=by rw[IntKind.wrap_i64];omega
 have k9:(0:Int)<=(i:Int)+(m:Int):=O
 have kK:i<=n:=O
 have JN:((i:Int)+(m:Int)).toNat=i+m:=O
 have yM:(i:Int)<=(n:Int):=O
 clear E H A p P oH
 go_enter func113,Tryz.ntmps113
 go_wp2_with (first
  |(at_builtin;refine Lib.wpList_append_run _ rfl _ _ _ _ rfl _ _ rfl rfl _ _ (s _) ?_)
  |(at_builtin;refine vl _ rfl _ _ 83 83 rfl _ _ rfl rfl (M _ Ji Jj _ _) ?_)
  |(at_builtin;refine vl _ rfl _ _ 83 83 rfl _ _ rfl rfl (B _ (λ_=>rfl) (λ_=>rfl) _ _ _) ?_))
 go_region_law (refine DQ rfl _ _ 83 83 rfl (.slice (aa ⟨w.heap.size,(i+m)*2,ak⟩) (n+m-(i+m)) (G-(i+m))) (.slice (aa ⟨b,i*2,ak⟩) (n-i) (c-i)) (by simp[Act.eval,Act.put]) (by simp[Act.eval,Act.put]) (B _ sV sW 3 (G-(i+m)) (c-i)) ?_)
 go_wp2
 go_ret
 exact⟨rfl,rfl⟩
open Go.RowKit Go.Lib in
set_option maxHeartbeats 4000000 in
set_option maxRecDepth 100000 in
theorem Ws(b d:Option Addr)(n c i h:Nat)(w:World)(p:i<=n)(q:n<=c)(r:c<=9223372036854775807):Calls prog 113 #[.slice b n c,.int .i64 i,.slice d 0 h] w λe k=>e= .returned (.slice b n c)/\k=w:=by
 have l:(i:Int)<=(n:Int):=O
 go_enter func113,Tryz.ntmps113
 cases b with
 |none=>
  go_wp2
  go_ret
  exact⟨rfl,rfl⟩
 |some a=>
  obtain⟨s,x,m⟩:=a;by_cases o:c=i
  ·go_wp2
   go_ret
   exact⟨rfl,rfl⟩
  go_wp2
  go_ret
  exact⟨rfl,rfl⟩
open Go.RowKit Go.Lib in
set_option maxHeartbeats 4000000 in
set_option maxRecDepth 100000 in
theorem VB(b d:Option Addr)(n c m i:Nat)(w:World)(k:Value)(w':World)(r:0<m)(s:n<=c)(x:c<=9223372036854775807)(h:(Builtin.append_ #[83,83] 83 #[.slice b n c,.slice d m i]).run prog w= .ok k w'):
  Calls prog 113 #[.slice b n c,.int .i64 n,.slice d m i] w λe l=>e= .returned k/\l=w':=by
 have o: ¬((m:Int)=0):=O
 go_enter func113,Tryz.ntmps113
 cases b with
 |none=>
  go_wp2_with (at_builtin;refine Lib.wpList_append_run _ rfl _ _ _ _ rfl _ _ rfl rfl _ _ h ?_)
  go_ret
  exact⟨rfl,rfl⟩
 |some a=>
  obtain⟨y,z,p⟩:=a;by_cases q:c=n
  ·go_wp2_with (at_builtin;refine Lib.wpList_append_run _ rfl _ _ _ _ rfl _ _ rfl rfl _ _ h ?_)
   go_ret
   exact⟨rfl,rfl⟩
  go_wp2_with (at_builtin;refine Lib.wpList_append_run _ rfl _ _ _ _ rfl _ _ rfl rfl _ _ h ?_)
  go_ret
  exact⟨rfl,rfl⟩
theorem XS(s:prog.info? 82=aa a)(x:a.zero=aa z)(y:a.size=2)(A:z.cells.size=2):AG prog 113 83 82 2 a z where
 nothing:=Ws
 tail:=VB
 room:=λb n c i B m dD cs C w D F d q H e h k K L l o p j t fM u Q R W X=>Wq b n c i B m dD cs C w D F d q H e h k K L l o p j t fM u Q R W X
 grow:=λb n c i B m dD cs C w D F f d g r e h k l o p=>Wu b n c i B m dD cs C w D F f d a z s x y A g r e h k l o p
theorem Vd(G:cL)(n:Nat)(s:List Loop)(i:Int)(v:List Loop)(c d:Nat){r:List Loop}(h:v8 n s i v=aa r):
  b' G 113 [aM 82 c 2 av s,aM 82 d 2 av v] [ms 0 c 2 av s,Y i,ms 1 d 2 av v] (ms 0 (c+1) 2 av r) [aM 82 (c+1) 2 av r,aM 82 d 2 av v]:=by
 unfold v8 at h;refine iQ (aj ((0:Int)<=i)) (λe=>?_) λe=>?_
 ·have h:=gz e h;exact iy h
 have h:=gQ e h;refine iQ (aj (i<=(s.length:Int))) (λl=>?_) λl=>?_
 ·have h:=gz l h;exact iy h
 have h:=gQ l h;have x:=e4 e;have y:=e4 l;obtain⟨k,rfl⟩: ∃k:Nat,i=(k:Int):=⟨i.toNat,O⟩
 simp only[Int.toNat_natCast] at h;have a:(prog.info? 82).map (λi=>(i.zero.map λz=>z.cells.size,i.size,Nat.ble i.bytes 140000))=aa (aa 2,2,ab):=J
 cases m:prog.info? 82 with
 |none=>rw[m] at a;cases a
 |some q=>
  rw[m] at a;simp only[gN,Option.some.injEq,Prod.mk.injEq] at a;obtain⟨b,p,w⟩:=a;cases o:q.zero with
  |none=>rw[o] at b;cases b
  |some z=>
   rw[o] at b;simp only[gN,Option.some.injEq] at b;refine Pu ⟨_,func113,J,J⟩ (XS m o p b) underlying83 m o b p underlying82 (by decide) (e9 w) av (λ_=>rfl) s v r k c d O h
abbrev ai8:List dy:=[⟨86,2,[]⟩]
theorem UU(G:cL)(n:Nat)(c s:List Loop)(i:Int)(v:List Loop)(a b:Nat){r:List Loop}(e:(c.map av).length=(s.map av).length)(h:v8 n s i v=aa r):
  b' G 113 [aM 82 a 2 av s,aM 82 b 2 av v] [ms 0 a 2 av c,Y i,ms 1 b 2 av v] (ms 0 (a+1) 2 av r) [aM 82 (a+1) 2 av r,aM 82 b 2 av v]:=by have:=Vd G n s i v a b h;show hW _ _ _ _ [V.bd 0 a 2 0 (c.map av).length,Y i,ms 1 b 2 av v] _ _;rw[e];exact this
theorem UB(G:cL)(n:Nat)(c:List Loop)(d:List Loop)(b:FuncId)(o:Loop->Loop->Option Bool)(i: ∀(p:Loop) (q:Loop) r,o p q=aa r->bn G b [V.agg (iz p),V.agg (iz q)] (aY r)){r:Bool}(h:Kg n c d o=aa r):bn G 177 [aJ av c,aJ av d,V.fn b []] (aY r):=by
 refine bE aT func177 rfl λw X a=>ae a (ao (ah a [aO av c,aO av d] (aD h (λs h=>?_) λs h=>?_)))
 ·cases h;exact ae a aG
 refine aA (ao (ah a [aO av c] (bu (cz h (λx=>b4 [(1,aJ av d),(2,V.fn b []),(15,aJ av c),(16,Y (c.length:Int)),(17,Y x)]) aW λe D h=>ae a (dc h (λy h=>?_) λy h=>?_)))))
 ·refine aA (bM (au h λA k h=>ah a [a8 av k,.z (.nat 20)] (au h λB l h=>ah a [a8 av l,.z (.nat 21)] (au h λF m h=>ah a [ay (i A B _ m)] (aD h (λC h=>?_) λC h=>aA (bt a (az h)))))));cases h;exact ae a aG
 cases h;exact bG (ae a aG)
theorem J7(G:cL)(n:Nat)(c:List aE)(d:List aE)(b:FuncId)(o:aE->aE->Option Bool)(i: ∀(p:aE) (q:aE) r,o p q=aa r->bn G b [V.agg (cF p),V.agg (cF q)] (aY r)){r:Bool}(h:yZ n c d o=aa r):bn G 179 [aJ aq c,aJ aq d,V.fn b []] (aY r):=by
 refine bE aT func179 rfl λw X a=>ae a (ao (ah a [aO aq c,aO aq d] (aD h (λs h=>?_) λs h=>?_)))
 ·cases h;exact ae a aG
 refine aA (ao (ah a [aO aq c] (bu (cz h (λx=>b4 [(1,aJ aq d),(2,V.fn b []),(15,aJ aq c),(16,Y (c.length:Int)),(17,Y x)]) aW λe D h=>ae a (dc h (λy h=>?_) λy h=>?_)))))
 ·refine aA (bM (au h λA k h=>ah a [a8 aq k,.z (.nat 20)] (au h λB l h=>ah a [a8 aq l,.z (.nat 21)] (au h λF m h=>ah a [ay (i A B _ m)] (aD h (λC h=>?_) λC h=>aA (bt a (az h)))))));cases h;exact ae a aG
 cases h;exact bG (ae a aG)
theorem Kx(G:cL)(n:Nat)(a:aE)(b:aE){r:Bool}(h:oD n a b=aa r):bn G 180 [V.agg (cF a),V.agg (cF b)] (aY r):=bE aT func180 rfl λw X d=>ah d [.z (.b (ab)),.z (.b (ab))] (b0 h (λi=>b4 [(4,aY i)]) (λk h=>au h λl c h=>bk h (λe h=>aF d ([ay (Lh G n a.aK b.aK c)]++aR 6 e) (az h)) λe h=>aF d ([ay (Lh G n a.aK b.aK c)]++aX 6 e) (az h)) λm h=>aw h▸aG)
theorem VM(G:cL)(n:Nat)(x:Loop)(y:Loop){r:Bool}(h:zs n x y=aa r):bn G 178 [V.agg (iz x),V.agg (iz y)] (aY r):=bE aT func178 rfl λw X i=>ah i [.z (.b (ab)),.z (.b (ab))] (b0 h (λl=>b4 [(4,aY l)]) (λm h=>au h λo d h=>bk h (λe h=>aF i ([ay (J7 G n x.bo y.bo 180 (λa c=>oD n a c) (λa c r h=>Kx G n a c h) d)]++aR 6 e) (az h)) λe h=>au h λp k h=>aF i ([ay (J7 G n x.bo y.bo 180 (λa c=>oD n a c) (λa c r h=>Kx G n a c h) d)]++aX 5 e++[ay (J7 G n x.aL y.aL 180 (λa c=>oD n a c) (λa c r h=>Kx G n a c h) k),aZ e]) (az h)) λq h=>aw h▸aG)
theorem XJ{a}{b}{r}(h:Ay n a b=aa r):bn G 114 [aJ av a,aJ av b] (aY r):=bE aT func114 rfl λw X i=>ae i (au h λk c h=>aw h▸ah i [ay (UB G n a b 178 (λd e=>zs n d e) (λd e r h=>VM G n d e h) c)] aG)
theorem Yr{p}{q}{r}(h:A7 n p q=aa r):bn G 117 [aJ ai p,aJ ai q] (aY r):=bE aT func117 rfl λw X b=>ae b (au h λc a h=>aw h▸ah b [ay (Vf G a)] aG)
theorem Ve{s}{i}{j}(m:Nat){r}(h:tm n s i j=aa r):
  b' G 118 [aM 86 m 2 an s] [ms 0 m 2 an s,Y i,Y j] (ms 0 m 2 an (r.2.take r.1)) [aM 86 m 2 an r.2]:=by
 refine cq aT func118 rfl λw X y c A=>ae c (iQ (aj ((0:Int)<=i)) (λo=>?_) λo=>?_)
 ·have h:=gz o h;exact iy h
 have h:=gQ o h;refine iQ (aj (i<=j)) (λp=>?_) λp=>?_
 ·have h:=gz p h;exact iy h
 have h:=gQ p h;refine iQ (aj (j<=(s.length:Int))) (λq=>?_) λq=>?_
 ·have h:=gz q h;exact iy h
 have h:=gQ q h;have b:=e4 o;have d:=e4 p;have a:=e4 q;refine ah c [aO an s,ar (Q7 an s b d a)] (ao (ae c (aD h (λx h=>aw h▸ah c [.z (.at 0),.z (.len 6 (bj an (s.take s.length)).length),ar (afP an s)] b2) λx h=>?_)));have e:i<j:=by have:=of_decide_eq_false x;omega
 refine aA (ah c [aO an s] ?_);by_cases l:j<(s.length:Int)
 ·exact aw h▸ao (bK c bJ [.z (.nat 0),.z (.nat i.toNat),.z (.nat j.toNat),.z (.nat (s.length-j.toNat)),.z (.rows (bj an (jX s i j))),ar (C4 an s b d a),ar (GU an s (O:0<=j) l),ar (T' an s b d a),ar (T9 an s b d a),ar (Lo an s i j)] (ah c [.z (.nat (dL s i j)),.z (.int 1),.z (.nat (dL s i j)),.z (.nat (s.length-(dL s i j))),.z (.rows (bj an (hd s i j (⟨[],[]⟩:Part)))),ar (bc (dL s i j)),ar (C5 an s (jX s i j) (k:=2) (by decide) b e a (B3 s b d a) rfl),ar (agn an s (⟨[],[]⟩:Part) b e a)] (ah c [.z (.at 0),.z (.len 6 (bj an ((hd s i j (⟨[],[]⟩:Part)).take (dL s i j))).length),ar (C6 an s (⟨[],[]⟩:Part) b e a)] b2)))
 exact aw h▸ao (bK c bJ [.z (.nat 0),.z (.nat i.toNat),.z (.int 0),.z (.int 0),ar (C4 an s b d a),ar (Q6 an s b d a l)] (ah c [.z (.nat (i.toNat)),.z (.int 1),.z (.nat (i.toNat)),.z (.nat (s.length-(i.toNat))),.z (.rows (bj an (hd s i j (⟨[],[]⟩:Part)))),ar (bc (i.toNat)),ar (C5 an s s (k:=2) (by decide) b e a rfl (C7 s a l)),ar (T8 an s (⟨[],[]⟩:Part) b e a l)] (ah c [.z (.at 0),.z (.len 6 (bj an ((hd s i j (⟨[],[]⟩:Part)).take (dL s i j))).length),ar ((C7 s a l).trans (C6 an s (⟨[],[]⟩:Part) b e a))] b2)))
theorem aeB{R:Type}{l:List R}{i:Int}{x y:R}(h:aB l i=aa x)(k:aB l (wr (i+1))=aa y):0+bp (wr (i+1))≠0+bp i:=by have b:=(kb h).1;have a:=(kb k).1;have e:wr (i+1)=_:=IntKind.wrap_i64 (i+1);rw[e] at a⊢;omega
def DJ:List dy:=[⟨86,2,[]⟩]
theorem V3{s}{r}(h:EZ n s=aa r):b' G 120 [] [aJ ax s] (ms 0 1 9 ax r) [aM 118 1 9 ax r]:=cq aT func120 rfl λw X e a k=>ae a (ao (ao (bk h (λd h=>aF a [.z (.b al),ar (ai9 ax d)] (j6 (b:=al) J (λi=>br (i.symm.trans (bc al)) (by decide)) λ_=>(aA (au h λl c h=>aw h▸ah a [.z (.nat 20),cu (cU ax c),b5 9 gR [],b5 9 gR s] (ff a 2 20))))) λd h=>iy h)))
open Go.RowKit Go.Lib in
set_option maxHeartbeats 4000000 in
set_option maxRecDepth 100000 in
theorem VC(b n c i d m s:Nat)(l vs:List Value)(w:World)(aL:i<n)(hm:0<m)(L:n+m<=c)(V:c<=9223372036854775807)(y:d≠b)
  (Q:l.length=n*2) (R:vs.length=m*2)
  (X: ∀j v,l[j]? =aa v->w.cell? ⟨b,j,ak⟩=aa v) (q: ∀j,j<(n+m)*2->(w.cell? ⟨b,j,ak⟩).isSome=ab) (z: ∀j,w.frozen? ⟨b,j,ak⟩=al)
  (f: ∀j v,vs[j]? =aa v->w.cell? ⟨d,j,ak⟩=aa v) (g: ∀v∈l,v.oneCell'=ab) (t: ∀v∈vs,v.oneCell'=ab)
  (Y tS:TypeId) (u E:Nat) (I:w.shape? d=aa (Y,u)) (M:w.shape? b=aa (tS,E)) (N:E≠0) (A: ∀j,w.frozen? ⟨d,j,ak⟩=al):
  Calls prog 121 #[.slice (aa ⟨b,0,ak⟩) n c,.int .i64 i,.slice (aa ⟨d,0,ak⟩) m s] w λe w'=>
   e= .returned (.slice (aa ⟨b,0,ak⟩) (n+m) c)/\w'=(w.drew.setCells b ((i+m)*2) (l.drop (i*2))).setCells b (i*2) vs:=by
 have yY: ¬((m:Int)=0):=O
 have pK: ¬((i:Int)=(n:Int)):=O
 have mG:IntKind.i64.wrap ((i:Int)+(m:Int))=(i:Int)+(m:Int):=by rw[IntKind.wrap_i64];omega
 have k9:(0:Int)<=(i:Int)+(m:Int):=O
 have kK:i<=n:=O
 have JN:((i:Int)+(m:Int)).toNat=i+m:=O
 have vx: ¬(c=i+m):=O
 have yM:(i:Int)<=(n:Int)+(m:Int):=O
 have agW: ¬(c=i):=O
 have P: ∀S T,(callFunc 185 #[.slice (aa ⟨d,0,ak⟩) m s,.slice (aa ⟨b,(i+m)*2,ak⟩) S T]).run prog w= .ok (.value (.bool al)) w:=λS T=>by
  rw[run_callFunc_extern func185 J J J (e:=Extern.SlicesOverlaps.overlaps #[30,30] #[4]) J,
   Lib.run_overlaps_apart w 30 4 86 underlying30 2 sizeOf86 ⟨d,0,ak⟩ ⟨b,(i+m)*2,ak⟩ m s S T y Y tS u E I M N (A 0) (A u)]
  rfl
 have B:(l.drop (i*2)).length=(n-i)*2:=by rw[fN,Q];omega
 have C:(prog.info? 86).map (·.size)=aa 2:=J
 have p: ∀ty r ki,(Builtin.copy_ #[30,30] ty #[.slice (aa ⟨b,(i+m)*2,ak⟩) (n+m-(i+m)) r,.slice (aa ⟨b,i*2,ak⟩) (n+m-i) ki]).run prog w.drew= .ok (goInt ((n-i:Nat):Int)) (w.drew.setCells b ((i+m)*2) (l.drop (i*2))):=λty r ki=>
  ru w.drew 30 30 ty 86 2 b ((i+m)*2) (n+m-(i+m)) r ⟨b,i*2,ak⟩ (n+m-i) ki (n-i) (l.drop (i*2)) underlying30 C (by simp only[Nat.min_def];split<;>omega) B
   (λj v o=>by rw[Addr.add_lit];exact X (i*2+j) v (by rwa [fv] at o))
   (λj o=>q _ O) (λj o=>z _) λv bx=>g v (ft bx)
 obtain⟨D,a⟩: ∃D,D=w.drew.setCells b ((i+m)*2) (l.drop (i*2)):=⟨_,rfl⟩
 have F: ∀k,k<(n+m)*2->(D.cell? ⟨b,k,ak⟩).isSome=ab:=λk hk=>by
  rw[a];exact DE b (l.drop (i*2)) ((i+m)*2) w.drew (λj o=>q _ (by rw[B] at o;omega)) k (q k hk)
 have H: ∀(W:World),(∀x,W.cell? x=D.cell? x)->(∀x,W.frozen? x=D.frozen? x)-> ∀ty r,(Builtin.copy_ #[30,30] ty #[.slice (aa ⟨b,i*2,ak⟩) (n+m-i) r,.slice (aa ⟨d,0,ak⟩) m s]).run prog W= .ok (goInt m) (W.setCells b (i*2) vs):=λW K U ty r=>
  ru W 30 30 ty 86 2 b (i*2) (n+m-i) r ⟨d,0,ak⟩ m s m vs underlying30 C (by simp only[Nat.min_def];split<;>omega) R
   (λj v o=>by
    rw[Addr.add_lit,dA,K,a,World.cell?_setCells_out b _ _ _ _ λh _=>br h y];exact f j v o)
   (λj o=>by rw[K];exact F _ O) (λj o=>by rw[U,a,World.frozen?_setCells];exact z _) t
 rw[<-a] at p
 go_enter func121,Tryz.ntmps121
 go_wp2_with (simp only[P])
 go_region_law (refine DQ rfl _ _ 30 30 rfl _ _ (by simp[Act.eval,Act.put]) (by simp[Act.eval,Act.put]) (p _ _ _) ?_)
 go_wp2_with (at_builtin;refine vl _ rfl _ _ 30 30 rfl _ _ rfl rfl (H _ (λ_=>rfl) (λ_=>rfl) _ _) ?_)
 go_ret
 first|exact⟨rfl,rfl⟩|exact⟨rfl,by rw[a]⟩
open Go.RowKit Go.Lib in
set_option maxHeartbeats 4000000 in
set_option maxRecDepth 100000 in
theorem Wt(b n c i y m S:Nat)(k l:List Value)(w:World)(aL:i<n)(hm:0<m)(ahB:n<=c)(C:c<n+m)(D:TypeInfo)(z:Value)(Q:prog.info? 86=aa D)(T:D.zero=aa z)(R:D.size=2)(U:z.cells.size=2)(hle:n+m<=1000000000)(X:(n+m)*D.bytes<=140737488355328)
  (V:k.length=n*2) (f:l.length=m*2)
  (F: ∀j v,k[j]? =aa v->w.cell? ⟨b,j,ak⟩=aa v)
  (g: ∀j v,l[j]? =aa v->w.cell? ⟨y,j,ak⟩=aa v) (Y: ∀v∈k,v.oneCell'=ab) (pD: ∀v∈l,v.oneCell'=ab):
  Calls prog 121 #[.slice (aa ⟨b,0,ak⟩) n c,.int .i64 i,.slice (aa ⟨y,0,ak⟩) m S] w λe w'=>
   e= .returned (.slice (aa ⟨w.heap.size,0,ak⟩) (n+m) (grownCap w (n+m) c 86))/\
   w'=(((w.alloc (.cells ((k.take (i*2)).toArray++ei z.cells (n+m-i)++ei z.cells (grownCap w (n+m) c 86-(n+m))) 86)).drew.setCells w.heap.size (i*2) l).drew).setCells w.heap.size ((i+m)*2) (k.drop (i*2)):=by
 have yY: ¬((m:Int)=0):=O
 have pK: ¬((i:Int)=(n:Int)):=O
 have aif:(c:Int)<(n:Int)+(m:Int):=O
 have u:(prog.info? 86).map (·.size)=aa 2:=by rw[Q];simp[R]
 have Ju:b<w.heap.size:=block_lt_of_cell (F 0 _ (bD O));have JR:y<w.heap.size:=block_lt_of_cell (g 0 _ (bD O));have E:(n:Int)+(m:Int)-(i:Int)=((n+m-i:Nat):Int):=O
 have H:i+(n+m-i)=n+m:=O
 have A:(Builtin.firstCells D.size i (.slice (aa ⟨b,0,ak⟩) i c)).run prog w.drew= .ok (k.take (i*2)).toArray w.drew:=by
  rw[R];exact run_firstCells_some w.drew 2 i ⟨b,0,ak⟩ i c (k.take (i*2)) (by rw[c8];omega) (λj v d=>by
   rw[Addr.add_lit,dA];rw[fs] at d;split at d
   ·exact F j v d
   cases d)
 have s: ∀ty,(Builtin.append_ #[30,3] ty #[.slice (aa ⟨b,0,ak⟩) i c,.int .i64 ((n:Int)+(m:Int)-(i:Int))]).run prog w=
   .ok (.slice (aa ⟨w.heap.size,0,ak⟩) (n+m) (grownCap w (n+m) c 86)) (w.drew.alloc (.cells ((k.take (i*2)).toArray++ei z.cells (n+m-i)++ei z.cells (grownCap w (n+m) c 86-(n+m))) 86)):=λty=>by
  have h:=Lib.run_append_grow_zeros w 30 3 ty 86 D z .i64 .i64 underlying30 underlying3 Q T (aa ⟨b,0,ak⟩) i c (k.take (i*2)) A (n+m-i) O O O O (by
   have:=dR D.bytes (O:n+m-i<=n+m);omega) (by rw[H];exact growslice_fits C X)
  rw[H] at h;rw[E];exact h
 obtain⟨G,P⟩: ∃G,G=grownCap w (n+m) c 86:=⟨_,rfl⟩
 obtain⟨a,p⟩: ∃a:Array Value,a=(k.take (i*2)).toArray++ei z.cells (n+m-i)++ei z.cells (G-(n+m)):=⟨_,rfl⟩
 rw[<-P] at s⊢;rw[<-p] at s⊢;have oH:(n+m)*2<=a.size:=by
  rw[p];simp[ei,U];omega
 obtain⟨q,o⟩: ∃q,q=w.drew.alloc (.cells a 86):=⟨_,rfl⟩
 rw[<-o] at s;have f': ∀j,j<(n+m)*2->(q.cell? ⟨w.heap.size,j,ak⟩).isSome=ab:=λj d=>by
  rw[o,World.cell?_alloc_at (w:=w.drew) a _ w.heap.size j rfl,hR O];rfl
 have I: ∀j,q.frozen? ⟨w.heap.size,j,ak⟩=al:=λj=>by rw[o];exact World.frozen?_alloc_at (w:=w.drew) a _ w.heap.size j rfl
 have Jo: ∀j v,w.cell? ⟨b,j,ak⟩=aa v->q.cell? ⟨b,j,ak⟩=aa v:=λj v h=>by rw[o,World.cell?_alloc_past (w:=w.drew) _ b j Ju];exact h
 have Jp: ∀j v,w.cell? ⟨y,j,ak⟩=aa v->q.cell? ⟨y,j,ak⟩=aa v:=λj v h=>by rw[o,World.cell?_alloc_past (w:=w.drew) _ y j JR];exact h
 have M: ∀(W:World),(∀x,W.cell? x=q.cell? x)->(∀x,W.frozen? x=q.frozen? x)-> ∀ty K,(Builtin.copy_ #[30,30] ty #[.slice (aa ⟨w.heap.size,i*2,ak⟩) (n+m-i) K,.slice (aa ⟨y,0,ak⟩) m S]).run prog W= .ok (goInt m) (W.setCells w.heap.size (i*2) l):=λW r L ty K=>
  ru W 30 30 ty 86 2 w.heap.size (i*2) (n+m-i) K ⟨y,0,ak⟩ m S m l underlying30 u (by simp only[Nat.min_def];split<;>omega) f
   (λj v d=>by rw[Addr.add_lit,dA,r];exact Jp _ v (g j v d))
   (λj d=>by rw[r];exact f' _ O) (λj d=>by rw[L];exact I _) pD
 have Jk:n+m<=G:=by rw[P];exact grownCap_ge w _ _ _
 have agL:G<=9223372036854775807:=by
  have:=grownCap_le_maxLen w (n+m) c 86 (by unfold maxLen;omega);rw[<-P] at this;unfold maxLen at this;omega
 have agM: ¬(G=i):=O
 have agN: ¬(G=i+m):=O
 have agZ: ¬(c=i):=O
 have Js:b≠w.heap.size:=O
 have N:(k.drop (i*2)).length=(n-i)*2:=by rw[fN,V];omega
 have B: ∀(W:World),(∀x,W.cell? x=(q.setCells w.heap.size (i*2) l).cell? x)->(∀x,W.frozen? x=(q.setCells w.heap.size (i*2) l).frozen? x)-> ∀ty K ki,(Builtin.copy_ #[30,30] ty #[.slice (aa ⟨w.heap.size,(i+m)*2,ak⟩) (n+m-(i+m)) K,.slice (aa ⟨b,i*2,ak⟩) (n-i) ki]).run prog W= .ok (goInt ((n-i:Nat):Int)) (W.setCells w.heap.size ((i+m)*2) (k.drop (i*2))):=λW r L ty K ki=>
  ru W 30 30 ty 86 2 w.heap.size ((i+m)*2) (n+m-(i+m)) K ⟨b,i*2,ak⟩ (n-i) ki (n-i) (k.drop (i*2)) underlying30 u (by simp only[Nat.min_def];split<;>omega) N
   (λj v d=>by
    rw[Addr.add_lit,r,World.cell?_setCells_out _ _ _ _ _ λh _=>br h Js];exact Jo _ v (F (i*2+j) v (by rwa [fv] at d)))
   (λj d=>by rw[r];exact DE w.heap.size l (i*2) q (λt fo=>f' _ (by rw[f] at fo;omega)) _ (f' _ (by rw[N] at d;omega)))
   (λj d=>by rw[L,World.frozen?_setCells];exact I _) λv bx=>Y v (ft bx)
 subst o;have Ji: ∀x,((w.alloc (.cells a 86)).drew).cell? x=(w.drew.alloc (.cells a 86)).cell? x:=λx=>rfl;have Jj: ∀x,((w.alloc (.cells a 86)).drew).frozen? x=(w.drew.alloc (.cells a 86)).frozen? x:=λx=>rfl;have sV: ∀x,(((w.alloc (.cells a 86)).drew.setCells w.heap.size (i*2) l).drew).cell? x=((w.drew.alloc (.cells a 86)).setCells w.heap.size (i*2) l).cell? x:=λx=>rfl;have sW: ∀x,(((w.alloc (.cells a 86)).drew.setCells w.heap.size (i*2) l).drew).frozen? x=((w.drew.alloc (.cells a 86)).setCells w.heap.size (i*2) l).frozen? x:=λx=>rfl;have mG:IntKind.i64.wrap ((i:Int)+(m:Int))=(i:Int)+(m:Int):=by rw[IntKind.wrap_i64];omega
 have k9:(0:Int)<=(i:Int)+(m:Int):=O
 have kK:i<=n:=O
 have JN:((i:Int)+(m:Int)).toNat=i+m:=O
 have yM:(i:Int)<=(n:Int):=O
 clear E H A p P oH
 go_enter func121,Tryz.ntmps121
 go_wp2_with (first
  |(at_builtin;refine Lib.wpList_append_run _ rfl _ _ _ _ rfl _ _ rfl rfl _ _ (s _) ?_)
  |(at_builtin;refine vl _ rfl _ _ 30 30 rfl _ _ rfl rfl (M _ Ji Jj _ _) ?_)
  |(at_builtin;refine vl _ rfl _ _ 30 30 rfl _ _ rfl rfl (B _ (λ_=>rfl) (λ_=>rfl) _ _ _) ?_))
 go_region_law (refine DQ rfl _ _ 30 30 rfl (.slice (aa ⟨w.heap.size,(i+m)*2,ak⟩) (n+m-(i+m)) (G-(i+m))) (.slice (aa ⟨b,i*2,ak⟩) (n-i) (c-i)) (by simp[Act.eval,Act.put]) (by simp[Act.eval,Act.put]) (B _ sV sW 3 (G-(i+m)) (c-i)) ?_)
 go_wp2
 go_ret
 exact⟨rfl,rfl⟩
open Go.RowKit Go.Lib in
set_option maxHeartbeats 4000000 in
set_option maxRecDepth 100000 in
theorem Wr(b d:Option Addr)(n c i h:Nat)(w:World)(p:i<=n)(q:n<=c)(r:c<=9223372036854775807):Calls prog 121 #[.slice b n c,.int .i64 i,.slice d 0 h] w λe k=>e= .returned (.slice b n c)/\k=w:=by
 have l:(i:Int)<=(n:Int):=O
 go_enter func121,Tryz.ntmps121
 cases b with
 |none=>
  go_wp2
  go_ret
  exact⟨rfl,rfl⟩
 |some a=>
  obtain⟨s,x,m⟩:=a;by_cases o:c=i
  ·go_wp2
   go_ret
   exact⟨rfl,rfl⟩
  go_wp2
  go_ret
  exact⟨rfl,rfl⟩
open Go.RowKit Go.Lib in
set_option maxHeartbeats 4000000 in
set_option maxRecDepth 100000 in
theorem VA(b d:Option Addr)(n c m i:Nat)(w:World)(k:Value)(w':World)(r:0<m)(s:n<=c)(x:c<=9223372036854775807)(h:(Builtin.append_ #[30,30] 30 #[.slice b n c,.slice d m i]).run prog w= .ok k w'):
  Calls prog 121 #[.slice b n c,.int .i64 n,.slice d m i] w λe l=>e= .returned k/\l=w':=by
 have o: ¬((m:Int)=0):=O
 go_enter func121,Tryz.ntmps121
 cases b with
 |none=>
  go_wp2_with (at_builtin;refine Lib.wpList_append_run _ rfl _ _ _ _ rfl _ _ rfl rfl _ _ h ?_)
  go_ret
  exact⟨rfl,rfl⟩
 |some a=>
  obtain⟨y,z,p⟩:=a;by_cases q:c=n
  ·go_wp2_with (at_builtin;refine Lib.wpList_append_run _ rfl _ _ _ _ rfl _ _ rfl rfl _ _ h ?_)
   go_ret
   exact⟨rfl,rfl⟩
  go_wp2_with (at_builtin;refine Lib.wpList_append_run _ rfl _ _ _ _ rfl _ _ rfl rfl _ _ h ?_)
  go_ret
  exact⟨rfl,rfl⟩
theorem XR(s:prog.info? 86=aa a)(x:a.zero=aa z)(y:a.size=2)(A:z.cells.size=2):AG prog 121 30 86 2 a z where
 nothing:=Wr
 tail:=VA
 room:=λb n c i B m dD cs C w D F d q H e h k K L l o p j t fM u Q R W X=>VC b n c i B m dD cs C w D F d q H e h k K L l o p j t fM u Q R W X
 grow:=λb n c i B m dD cs C w D F f d g r e h k l o p=>Wt b n c i B m dD cs C w D F f d a z s x y A g r e h k l o p
theorem KQ(G:cL)(n:Nat)(s:List Part)(i:Int)(v:List Part)(c d:Nat){r:List Part}(h:v7 n s i v=aa r):
  b' G 121 [aM 86 c 2 an s,aM 86 d 2 an v] [ms 0 c 2 an s,Y i,ms 1 d 2 an v] (ms 0 (c+1) 2 an r) [aM 86 (c+1) 2 an r,aM 86 d 2 an v]:=by
 unfold v7 at h;refine iQ (aj ((0:Int)<=i)) (λe=>?_) λe=>?_
 ·have h:=gz e h;exact iy h
 have h:=gQ e h;refine iQ (aj (i<=(s.length:Int))) (λl=>?_) λl=>?_
 ·have h:=gz l h;exact iy h
 have h:=gQ l h;have x:=e4 e;have y:=e4 l;obtain⟨k,rfl⟩: ∃k:Nat,i=(k:Int):=⟨i.toNat,O⟩
 simp only[Int.toNat_natCast] at h;have a:(prog.info? 86).map (λi=>(i.zero.map λz=>z.cells.size,i.size,Nat.ble i.bytes 140000))=aa (aa 2,2,ab):=J
 cases m:prog.info? 86 with
 |none=>rw[m] at a;cases a
 |some q=>
  rw[m] at a;simp only[gN,Option.some.injEq,Prod.mk.injEq] at a;obtain⟨b,p,w⟩:=a;cases o:q.zero with
  |none=>rw[o] at b;cases b
  |some z=>
   rw[o] at b;simp only[gN,Option.some.injEq] at b;refine Pu ⟨_,func121,J,J⟩ (XR m o p b) underlying30 m o b p underlying86 (by decide) (e9 w) an (λ_=>rfl) s v r k c d O h
theorem TM{a}{r}(h:pC n a=aa r):b' G 184 [aM 92 1 2 aq a] [ms 0 1 2 aq a] (ms 1 1 2 aq r) [aM 92 1 2 aq a,aM 92 1 2 aq r]:=by refine cq aT func184 rfl λw X m b B=>ae b (ae b (ao (ah b [aO aq a] (bu (aS b [.grow 3 20 92] (cT h (λe l=>bz [(3,ms 20 l 2 aq e.1),(6,ms 0 1 2 aq a),(7,Y (a.length:Int)),(8,Y e.2)] [(0,aM 92 1 2 aq a),(20,aM 92 l 2 aq e.1)] [0,20]) 1 (aW) ?_))))));rintro d ⟨o,p⟩ q h;exact ae b (dc h (λs h=>aA (bM (au h λx c h=>ah b [ar (bO aq c),bF aq c,.z (.nat 21)] (bY h λy i A k h=>aF b [ay (KG G n x i),.z (.int 0),cu (cU aq k),b5 2 fX o,b5 2 fX [y]] (bt b ⟨(A,wr (p+1)),(q+1),h,aW⟩))))) λs h=>aw h▸bG (ae b (aS b [.bs 20 1 [2] []] b2)))
theorem Wh{nest}{r}(h:ry n nest=aa r):b' G 119 [E.aC cg 1 1 (nest.map av) []] [ms 0 1 2 av nest] (ms 1 1 2 av r) [E.aC cg 1 1 (nest.map av) [],E.aC cg 1 1 (r.map av) []]:=by refine cq aT func119 rfl λw X x b D=>ae b (ae b (ao (ah b [aO av nest] (bu (aS b [.grow 3 20 82,.b3 20 cg 1] (cT h (λl s=>bz [(3,ms 20 s 2 av l.1),(6,ms 0 1 2 av nest),(7,Y (nest.length:Int)),(8,Y l.2)] [(0,E.aC cg 1 1 (nest.map av) []),(20,E.aC cg 1 s (l.1.map av) [])] [0,20]) 1 (aW) ?_))))));rintro k ⟨d,m⟩ A h;exact ae b (dc h (λB h=>aA (bM (ao (au h λe a h=>cV b [.cZ 0 25 (0+bp m) 0 (av e),.cZ 0 26 (0+bp m) 1 (av e),.en 25,.en 26] (a2 (bQ av a) (bQ av a)) (aF b [ar (bO av a),bF av a,.z (.nat 21)] (cY h λi o C p q c h=>bK b bJ [ba [25] [22] (TM G o),ba [26] [23] (TM G p),.z (.lt 24 cg 1),.z (.rows (bj av (d++[(⟨[],[]⟩:Loop)]))),ar (bc (U cg 1)),ar (lA av (⟨[],[]⟩:Loop) c),b5 2 fx d,b5 2 fx [(⟨[],[]⟩:Loop)]] (cV b [.b3 22 cg 3,.cn 20 22 (av (⟨[],[]⟩:Loop)) (bj av (d++[(⟨i,[]⟩:Loop)])),.b3 23 cg 3,.cn 20 23 (av (⟨i,[]⟩:Loop)) (q.map av),.len 3 (q.map av).length] (a9 (bc (i.map aq).length) (bc cg) (hb av d (⟨[],[]⟩:Loop)) (np av d (ph:=(⟨[],[]⟩:Loop)) (y:=(⟨i,[]⟩:Loop)) rfl) (bc (C.map aq).length) (bc cg) (hb av d (⟨i,[]⟩:Loop)) (ma av (ph:=(⟨i,[]⟩:Loop)) c rfl) (lB av (⟨[],[]⟩:Loop) c)) (cV b [.b3 25 cg 3,.b3 26 cg 3,.cn 0 26 (av e) (nest.map av),.cn 0 25 (av e) (nest.map av)] (fI (bc (e.aL.map aq).length) (bc cg) (bQ av a) (jn av a rfl) (bc (e.bo.map aq).length) (bc cg) (bQ av a) (jn av a rfl)) (bt b ⟨(q,wr (m+1)),(A+1),h,aW⟩))))))))) λB h=>aw h▸bG (ae b (aS b [.bs 20 1 [2,3] []] b2)))
theorem We{p}{r}(h:rv n p=aa r):b' G 122 [E.aC cg 1 1 (p.nest.map av) [],aM 118 1 9 ax p.body] [V.agg [ms 0 1 2 av p.nest,ms 1 1 9 ax p.body]] (V.agg [ms 2 1 2 av r.nest,ms 3 1 9 ax r.body]) [E.aC cg 1 1 (p.nest.map av) [],aM 118 1 9 ax p.body,E.aC cg 1 1 (r.nest.map av) [],aM 118 1 9 ax r.body]:=by refine cq aT func122 rfl λw X o a C=>ah a [.z (.nat 25),.z (.nat 20)] (au h λl d h=>ah a [ba [0] [21] (Wh G d),.z (.nat 22)] (ao (ah a [aO ax p.body] (bu (aS a [.ct 22 1 23 118] (cT h (λe m=>bz [(2,V.ref 20 0),(3,V.ref 22 0),(11,ms 1 1 9 ax p.body),(12,Y (p.body.length:Int)),(13,Y e.2)] [(0,E.aC cg 1 1 (p.nest.map av) []),(1,aM 118 1 9 ax p.body),(20,E.cells [bB,bB]),(21,E.aC cg 1 1 (l.map av) []),(22,E.cells [ms 21 1 2 av l,ms 23 m 9 ax e.1]),(23,aM 118 m 9 ax e.1)] [0,1,20,21,22,23,25]) 1 (aW) ?_))))));rintro c ⟨q,s⟩ x h;exact ae a (dc h (λy h=>aA (bM (au h λD b h=>ah a [ar (bO ax b),bF ax b,.z (.nat 24)] (bY h λA i B k h=>bK a bJ [ay (L5 G i),.z (.int 0),cu (cU ax k),b5 9 gR q,b5 9 gR [A]] (bt a ⟨(B,wr (s+1)),(x+1),h,aW⟩))))) λy h=>aw h▸bG (ae a (aS a [.bs 21 2 [] [20,22]] (aS a [.bs 23 3 [] [20,22]] b2))))
theorem TF{p}{r}(h:DO n p=aa r):bn G 244 [V.agg (cH p)] (Y r):=by refine bE aT func244 rfl λw X a=>ah a [.z (.b (ab))] (ae a (ao (ah a [aO a6 p.bb] (bu (cz h (λi=>b4 [(3,Y i.1),(7,aJ a6 p.bb),(8,Y (p.bb.length:Int)),(9,Y i.2)]) aW ?_)))));rintro c ⟨l,m⟩ h;exact ae a (dc h (λk h=>aA (bM (au h λo d h=>ah a [a8 a6 d,.z (.nat 20)] (au h λq e h=>aF a [ay (K5 G e)] (bt a (az h)))))) λk h=>aw h▸bG (ae a aG))
theorem v6{t}{part}{r}(h:y3 n t part=aa r):b' G 188 [] [V.aU (eC t),Y part] (V.bZ [ms 0 1 1 bP r.1,ms 1 1 1 bP r.2]) [aM 4 1 1 bP r.1,aM 4 1 1 bP r.2]:=by
 refine cq aT func188 rfl λw X P b bV=>ae b (ao (cY h λja Q kW q js R h=>au h λnh s h=>bK b bJ [ay (TF G Q),.z (.nat 20),cu (lZ bP q),ar (ka q).1,ay (TF G R),.z (.nat 21),cu (lZ bP s),ar (ka s).1] (ao (ah b [aO cK t.list] (bu (Cw (γ:=Nat×Nat) h (λa d=>bz [(0,V.aU (eC t)),(1,Y part),(6,ms 20 d.1 1 bP a.1),(7,ms 21 d.2 1 bP a.2.1),(27,aJ cK t.list),(28,Y (t.list.length:Int)),(29,Y a.2.2)] [(20,aM 4 d.1 1 bP a.1),(21,aM 4 d.2 1 bP a.2.1)] [20,21]) (1,1) (aW) ?_))))));rintro x ⟨S,W,L⟩ ⟨N,y⟩ h;refine ae b (dc h (λT h=>?_) λT h=>?_)
 ·refine aA ?_;obtain⟨f,A,h⟩:=nu h;refine mV (γ:=Nat) (j:=f) (r:=r) (λa d=>bz [(0,V.aU (eC t)),(1,Y part),(6,ms 20 d 1 bP a.1),(7,ms 21 y 1 bP a.2.1),(27,aJ cK t.list),(28,Y (t.list.length:Int)),(29,Y L)] [(20,aM 4 d 1 bP a.1),(21,aM 4 y 1 bP a.2.1),(22,E.cells [Y a.2.2.1,Y a.2.2.2.1,aJ ai a.2.2.2.2])] [20,21,22]) ?_ ?_
  ·refine bu (au h λc B h=>ah b [a8 cK B,.z (.nat 22)] (ao (ae b (aD h (λU h=>bG ⟨(S,W,c.part,c.stmt,c.da),N,h,aW⟩) λU h=>aA (ao (au h λm C h=>ah b [a8 (bh ai) C,aO ai m] (bu (cT h (λa d=>bz [(0,V.aU (eC t)),(1,Y part),(6,ms 20 d 1 bP a.1),(7,ms 21 y 1 bP W),(8,Y L),(27,aJ cK t.list),(28,Y (t.list.length:Int)),(29,Y L),(44,aJ ai m),(45,Y (m.length:Int)),(46,Y a.2)] [(20,aM 4 d 1 bP a.1),(21,aM 4 y 1 bP W),(22,E.cells (jI c))] [20,21,22]) N (aW) ?_))))))));rintro D ⟨g,u⟩ F h;exact ae b (dc h (λfi h=>aA (bM (au h λn' H h=>ah b [a8 ai H] (bY h λr1 e o i h=>aF b [ar (bO bP e),bF bP e,.z (.rows (o.map bP)),.z (.len 6 (o.map bP).length),ar (str bP i),ar (cX bP i)] (bt b ⟨(o,wr (u+1)),F,h,aW⟩))))) λfi h=>bG (cY h λr3 K uh k p l h=>aF b [a8 ai K,ar (bO bP k),bF bP k,.z (.rows (p.map bP)),.z (.len 7 (p.map bP).length),ar (str bP l),ar (cX bP l)] ⟨(g,p,c.part,c.stmt,c.da),F,h,aW⟩))
  rintro⟨v,I,uj,EM,EN⟩ M h;subst A;exact bt b ⟨(v,I,wr (L+1)),(M,y),h,aW⟩
 exact aw h▸bG (ae b (aS b [.bs 20 0 [4] []] (aS b [.bs 21 1 [5] []] b2)))
theorem TX{p}{a}{b}{r}(h:Dz n p a b=aa r):bn G 123 [V.agg (cH p),Y a,Y b] (aY r):=bE aT func123 rfl λw X e=>ah e [.z (.b (ab))] (ao (au h λj L h=>bk h (λu h=>aF e [.z (.v (V.bZ [V.t T.gY,aY j.2])),ar (zW u (oU G L))] (ao (b0 h (λF=>b4 [(1,Y a),(2,Y b),(7,V.t T.gY),(37,aY F)]) (λnJ h=>bk h (λx h=>au h λjs H h=>bk h (λB h=>au h λnh Q h=>bk h (λE h=>aF e (aR 3 x++[ay (hD G H),aN x,aN x]++aR 3 B++[ay (hD G Q),aN B,aN B]++aR 4 E) (az h)) λE h=>aF e (aR 3 x++[ay (hD G H),aN x,aN x]++aR 3 B++[ay (hD G Q),aN B,aN B]++aX 4 E) (az h)) λB h=>aF e (aR 3 x++[ay (hD G H),aN x,aN x]++aX 5 B++ea 4) (az h)) λx h=>aF e (aX 5 x++ea 9) (az h)) λuk h=>aD h (λS h=>aw h▸ae e aG) λS h=>aA (ao (iy h))))) λu h=>aF e [.z (.v (V.bZ [V.aU (eC (j.1.getD default)),aY j.2])),ar (zX u (oU G L))] (ao (b0 h (λF=>b4 [(1,Y a),(2,Y b),(7,V.aU (eC (j.1.getD default))),(37,aY F)]) (λDu h=>bk h (λy h=>au h λl7 K h=>bk h (λC h=>au h λkX R h=>bk h (λI h=>aF e (aR 3 y++[ay (hD G K),aN y,aN y]++aR 3 C++[ay (hD G R),aN C,aN C]++aR 4 I) (az h)) λI h=>aF e (aR 3 y++[ay (hD G K),aN y,aN y]++aR 3 C++[ay (hD G R),aN C,aN C]++aX 4 I) (az h)) λC h=>aF e (aR 3 y++[ay (hD G K),aN y,aN y]++aX 5 C++ea 4) (az h)) λy h=>aF e (aX 5 y++ea 9) (az h)) λoa h=>aD h (λU h=>aw h▸ae e aG) λU h=>aA (au h λi W h=>ah e [ba [] [20,21] (v6 G W)] (au h λo f h=>ah e [ba [] [22,23] (v6 G f)] (ao (ah e [aO bP i.1] (bu (cz h (λF=>bz [(9,ms 20 1 1 bP i.1),(10,ms 21 1 1 bP i.2),(11,ms 22 1 1 bP o.1),(12,ms 23 1 1 bP o.2),(51,Y (i.1.length:Int)),(52,Y F)] [(20,aM 4 1 1 bP i.1),(21,aM 4 1 1 bP i.2),(22,aM 4 1 1 bP o.1),(23,aM 4 1 1 bP o.2)] [20,21,22,23]) aW λg M h=>ae e (dc h (λN h=>aA (bM (ae e (b0 h (λF=>bz [(9,ms 20 1 1 bP i.1),(10,ms 21 1 1 bP i.2),(11,ms 22 1 1 bP o.1),(12,ms 23 1 1 bP o.2),(51,Y (i.1.length:Int)),(52,Y M),(82,aY F)] [(20,aM 4 1 1 bP i.1),(21,aM 4 1 1 bP i.2),(22,aM 4 1 1 bP o.1),(23,aM 4 1 1 bP o.2)] [20,21,22,23]) (λSf h=>au h λr0 d h=>bk h (λc h=>au h λAb q h=>bk h (λs h=>aF e ([ar (bO bP d),bF bP d]++aR 7 c++[cf,cf,cf,ar (bO bP q),cf,bF bP q,cf]++aR 4 s++[cf,aN s,cf]) (az h)) λs h=>au h λxf D h=>aF e ([ar (bO bP d),bF bP d]++aR 7 c++[cf,cf,cf,ar (bO bP q),cf,bF bP q,cf]++aX 3 s++[ar (bO bP D),aZ s,bF bP D,cf,aZ s,cf]) (az h)) λc h=>au h λn' k h=>bk h (λm h=>au h λr1 l h=>bk h (λA h=>aF e ([ar (bO bP d),bF bP d]++aX 3 c++[ar (bO bP k),aZ c,bF bP k,aZ c]++aR 3 m++[ar (bO bP l),aN m,bF bP l,aZ c,aN m,aZ c]++aR 3 A++[ar (bO bP l),aN A,bF bP l]++aR 8 A) (az h)) λA h=>aF e ([ar (bO bP d),bF bP d]++aX 3 c++[ar (bO bP k),aZ c,bF bP k,aZ c]++aR 3 m++[ar (bO bP l),aN m,bF bP l,aZ c,aN m,aZ c]++aX 7 A) (az h)) λm h=>aF e ([ar (bO bP d),bF bP d]++aX 3 c++[ar (bO bP k),aZ c,bF bP k,aZ c]++aX 4 m++[aZ c,aZ m,aZ c]++ea 7) (az h)) λr2 h=>aD h (λP h=>aw h▸ae e aG) λP h=>aA (bt e (az h)))))) λN h=>aw h▸bG (ae e aG))))))))))))
theorem UC{t}{a}{r}(h:DF n t a=aa r):b' G 190 [] [V.aU (eC t),Y a] (ms 0 1 1 ai r) [aM 3 1 1 ai r]:=by refine cq aT func190 rfl λw X D b Q=>ae b (ae b (ao (au h λc q h=>ah b [a8 (bh ai) q,aO ai c] (bu (aS b [.grow 5 20 3] (cT h (λd A=>bz [(0,V.aU (eC t)),(1,Y a),(5,ms 20 A 1 ai d.1),(15,aJ ai c),(16,Y (c.length:Int)),(17,Y d.2)] [(20,aM 3 A 1 ai d.1)] [20]) 1 (aW) ?_))))));rintro m ⟨e,s⟩ i h;exact ae b (dc h (λF h=>aA (bM (au h λB x h=>ah b [a8 ai x] (ae b (bM (cz h (λd=>bz [(0,V.aU (eC t)),(1,Y a),(5,ms 20 i 1 ai e),(7,Y B),(8,Y d),(15,aJ ai c),(16,Y (c.length:Int)),(17,Y s)] [(20,aM 3 i 1 ai e)] [20]) aW λo C h=>ao (b0 h (λd=>bz [(0,V.aU (eC t)),(1,Y a),(5,ms 20 i 1 ai e),(7,Y B),(8,Y C),(15,aJ ai c),(16,Y (c.length:Int)),(17,Y s),(35,aY d)] [(20,aM 3 i 1 ai e)] [20]) (λR h=>bk h (λp h=>aF b (aR 10 p) (az h)) λp h=>au h λH k h=>aF b (aX 6 p++[a8 ai k]++aX 4 p) (az h)) λK h=>aD h (λL h=>aA (bu (bt b (az h)))) λL h=>bG (au h λy l h=>aF b [.z (.int 0),cu (cU ai l),dG e,dG [C]] (bt b ⟨(y,wr (s+1)),(i+1),h,aW⟩))))))))) λF h=>aw h▸bG (ae b (ff b 4 20)))
theorem Vg{t}{r}(h:DW n t=aa r):b' G 125 [] [V.aU (eC t)] (ms 0 1 1 bP r) [aM 4 1 1 bP r]:=by
 refine cq aT func125 rfl λw X E a bV=>ae a (au h λja s h=>ah a [aO cK t.list,.z (.nat 20),cu (lZ bP s),ar (ka s).1] (ao (ah a [aO cK t.list] (bu (cT h (λb i=>bz [(0,V.aU (eC t)),(3,ms 20 i 1 bP b.1),(4,Y b.2)] [(20,aM 4 i 1 bP b.1)] [20]) 1 (aW) ?_)))));rintro K ⟨Q,x⟩ L h;refine ao (ae a (aD h (λI h=>?_) λI h=>?_))
 ·refine aA ?_;obtain⟨M,R,h⟩:=nu h;refine mV (γ:=Nat) (j:=M) (r:=r) (λb i=>bz [(0,V.aU (eC t)),(3,ms 20 i 1 bP b),(4,Y x)] [(20,aM 4 i 1 bP b)] [20]) ?_ ?_
  ·refine bu (ao (b0 h (λb=>bz [(0,V.aU (eC t)),(3,ms 20 L 1 bP Q),(4,Y x),(44,aY b)] [(20,aM 4 L 1 bP Q)] [20]) (λSg h=>au h λkX d h=>bk h (λq h=>bK a bJ ([ar (bO bP d),bF bP d]++aR 16 q) (az h)) λq h=>cY h λoa W N y P A h=>bK a bJ ([ar (bO bP d),bF bP d]++aX 7 q++[cu (pY ai W),dG t.i']++aX 6 q++[a8 ai y,aZ q,aZ q,ay (Ki G A),aZ q]) (az h)) λS h=>aD h (λT h=>bG ⟨Q,L,h,aW⟩) λT h=>aA (bY h λU k B l h=>ah a [ar (bO bP k),bF bP k,.z (.rows (B.map bP)),.z (.len 3 (B.map bP).length),ar (str bP l),ar (cX bP l)] (au h λc C h=>ah a [ba [] [21] (UC G C),aO ai c] (bu (cT h (λb i=>bz [(0,V.aU (eC t)),(3,ms 20 i 1 bP b.1),(4,Y x),(50,ms 21 1 1 ai c),(51,Y (c.length:Int)),(52,Y b.2)] [(20,aM 4 i 1 bP b.1),(21,aM 3 1 1 ai c)] [20,21]) L (aW) ?_))))));rintro D ⟨f,F⟩ e h;exact ae a (dc h (λh7 h=>aA (b0 h (λb=>bz [(0,V.aU (eC t)),(3,ms 20 e 1 bP b),(4,Y x),(50,ms 21 1 1 ai c),(51,Y (c.length:Int)),(52,Y F)] [(20,aM 4 e 1 bP b),(21,aM 3 1 1 ai c)] [20,21]) (λakg h=>bu (au h λr3 m h=>ah a [ar (bO ai m),bF ai m] (ae a (aD h (λny h=>bY h λuh o H p h=>aF a [ar (bO bP o),bF bP o,.z (.rows (H.map bP)),.z (.len 3 (H.map bP).length),ar (str bP p),ar (cX bP p)] (az h)) λny h=>aA (az h))))) λg h=>bt a ⟨(g,wr (F+1)),e,h,aW⟩)) λh7 h=>bG ⟨f,e,h,aW⟩)
  rintro u v h;subst R;exact bt a ⟨(u,wr (x-1)),v,h,aW⟩
 exact aw h▸bG (ae a (ff a 2 20))
theorem lL{e}{a}{r}(h:iR n e a=aa r):bn G 248 [V.agg (ef e),Y a] (aY r):=bE aT func248 rfl λw X c=>ah c [.z (.b (ab))] (b0 h (λi=>b4 [(4,aY i)]) (λk h=>bk h (λd h=>aF c (aR 5 d) (az h)) λd h=>aF c (aX 5 d) (az h)) λl h=>aw h▸aG)
theorem MR{a}{b}{r}(h:xA n a b=aa r):bn G 192 [aJ ai a,aJ ai b] (aY r):=bE aT func192 rfl λw X c=>ae c (ao (ah c [aO ai a,aO ai b] (aD h (λk h=>aw h▸ae c aG) λk h=>aA (ao (ae c (bu (cz h (λl=>b4 [(0,aJ ai a),(1,aJ ai b),(5,Y l)]) aW λd p h=>ao (ah c [aO ai a] (aD h (λm h=>aA (bM (ao (bY h λq e s i h=>bK c bJ [a8 ai e,a8 ai i] (aD h (λo h=>aw h▸ae c aG) λo h=>aA (bt c (az h))))))) λm h=>aw h▸bG (ae c aG))))))))))
theorem YH{a}{b}{r}(h:AJ n a b=aa r):bn G 127 [V.agg [cc a.name,aJ ai a.b8],V.agg [cc b.name,aJ ai b.b8]] (aY r):=bE aT func127 rfl λw X c=>ah c [.z (.b (ab)),.z (.b (ab))] (ao (ae c (aD h (λe h=>aw h▸ae c aG) λe h=>aA (ao (au h λk d h=>ah c [ay (MR G d)] (aD h (λi h=>aw h▸ae c aG) λi h=>aw h▸aA (ae c aG)))))))
theorem Xz{a}{b}{r}(h:Fy n a b=aa r):bn G 48 [aJ a6 a,aJ a6 b] (aY r):=bE aT func48 rfl λw X c=>ae c (ao (ah c [aO a6 a,aO a6 b] (aD h (λl h=>aw h▸ae c aG) λl h=>aA (ao (ae c (bu (cz h (λm=>b4 [(0,aJ a6 a),(1,aJ a6 b),(5,Y m)]) aW λd q h=>ao (ah c [aO a6 a] (aD h (λo h=>aA (bM (ao (cY h λs e x i y k h=>bK c bJ [a8 a6 e,a8 a6 i,ay (YH G k)] (aD h (λp h=>aw h▸ae c aG) λp h=>aA (bt c (az h))))))) λo h=>aw h▸bG (ae c aG))))))))))
theorem LL{a}{b}{r}(h:zN n a b=aa r):bn G 314 [V.agg (cF a),V.agg (cF b)] (aY r):=bE aT func314 rfl λw X c=>ah c [.z (.b (ab)),.z (.b (ab))] (ao (au h λk d h=>ah c [ay (MR G d)] (aD h (λe h=>aw h▸ae c aG) λe h=>aA (ao (ae c (aD h (λi h=>aw h▸ae c aG) λi h=>aw h▸aA (ae c aG)))))))
theorem KF{a}{b}{r}(h:zy n a b=aa r):bn G 289 [aJ aq a,aJ aq b] (aY r):=bE aT func289 rfl λw X c=>ae c (ao (ah c [aO aq a,aO aq b] (aD h (λl h=>aw h▸ae c aG) λl h=>aA (ao (ae c (bu (cz h (λm=>b4 [(0,aJ aq a),(1,aJ aq b),(5,Y m)]) aW λd q h=>ao (ah c [aO aq a] (aD h (λo h=>aA (bM (ao (cY h λs e x i y k h=>bK c bJ [a8 aq e,a8 aq i,ay (LL G k)] (aD h (λp h=>aw h▸ae c aG) λp h=>aA (bt c (az h))))))) λo h=>aw h▸bG (ae c aG))))))))))
theorem Zs{a}{b}{r}(h:BP n a b=aa r):bn G 249 [V.agg (iz a),V.agg (iz b)] (aY r):=bE aT func249 rfl λw X c=>ah c [.z (.b (ab)),.z (.b (ab))] (ao (au h λl d h=>ah c [ay (KF G d)] (aD h (λi h=>aw h▸ae c aG) λi h=>aA (ao (au h λm e h=>ah c [ay (KF G e)] (aD h (λk h=>aw h▸ae c aG) λk h=>aw h▸aA (ae c aG)))))))
theorem YF{a}{b}{r}(h:F7 n a b=aa r):bn G 193 [aJ av a,aJ av b] (aY r):=bE aT func193 rfl λw X c=>ae c (ao (ah c [aO av a,aO av b] (aD h (λl h=>aw h▸ae c aG) λl h=>aA (ao (ae c (bu (cz h (λm=>b4 [(0,aJ av a),(1,aJ av b),(5,Y m)]) aW λd q h=>ao (ah c [aO av a] (aD h (λo h=>aA (bM (ao (cY h λs e x i y k h=>bK c bJ [a8 av e,a8 av i,ay (Zs G k)] (aD h (λp h=>aw h▸ae c aG) λp h=>aA (bt c (az h))))))) λo h=>aw h▸bG (ae c aG))))))))))
theorem LM{a}{b}{r}(h:zO n a b=aa r):bn G 290 [V.agg (gD a),V.agg (gD b)] (aY r):=bE aT func290 rfl λw X c=>ah c [.z (.b (ab)),.z (.b (ab))] (ao (ae c (aD h (λe h=>aw h▸ae c aG) λe h=>aA (ao (au h λk d h=>ah c [ay (KF G d)] (aD h (λi h=>aw h▸ae c aG) λi h=>aw h▸aA (ae c aG)))))))
theorem YG(G:cL)(n:Nat)(self:Expr->Expr->Option Bool)(d: ∀(p:Expr) (q:Expr) {r:Bool},self p q=aa r->bn G 291 [V.agg (ef p),V.agg (ef q)] (aY r))(a:List Expr)(b:List Expr){r:Bool}(h:Gs n self a b=aa r):bn G 315 [aJ aI a,aJ aI b] (aY r):=by
 refine bE aT func315 rfl λw X c=>ae c (ao (ah c [aO aI a,aO aI b] (aD h (λs h=>?_) λs h=>?_)))
 ·cases h;exact ae c aG
 refine aA (ao (ae c (bu (cz h (λx=>b4 [(0,aJ aI a),(1,aJ aI b),(5,Y x)]) aW λe B h=>ao (ah c [aO aI a] (aD h (λy h=>?_) λy h=>?_))))))
 ·refine aA (bM (ao (cY h λi k l m C o h=>bK c bJ [.z (.row (bm i)),.z (.row (bm l)),ar (fZ aI k (cQ i)),ar (fZ aI m (cQ l)),ay (d i l o)] (aD h (λA h=>?_) λA h=>aA (bt c (az h))))));cases h;exact ae c aG
 cases h;exact bG (ae c aG)
theorem Zt(G:cL): ∀(n:Nat) (a:Expr) (b:Expr) {r:Bool} (h:ql n a b=aa r),bn G 291 [V.agg (ef a),V.agg (ef b)] (aY r):=by
 intro n;induction n with
 |zero=>intro a b r h;rw[ql.eq_def] at h;cases h
 |succ n k=>
  intro a b r h;rw[ql.eq_def] at h;dsimp only at h;refine bE aT func291 rfl λw X c=>ah c [.z (.b (ab)),.z (.b (ab))] (ao (ae c (aD h (λl h=>?_) λl h=>?_)))
  ·cases h;exact ae c aG
  refine aA (ao (ae c (aD h (λm h=>?_) λm h=>?_)))
  ·cases h;exact ae c aG
  refine aA (ao ?_);obtain⟨y,d,h⟩:=c9 h;refine ah c [ay (LL G d)] (aD h (λo h=>?_) λo h=>?_)
  ·cases h;exact ae c aG
  refine aA (ao ?_);obtain⟨A,e,h⟩:=c9 h;refine ah c [ay (LM G e)] (aD h (λp h=>?_) λp h=>?_)
  ·cases h;exact ae c aG
  refine aA (ao ?_);obtain⟨B,i,h⟩:=c9 h;refine ah c [ay (YG G n (ql n) (λq s r h=>k q s h) a.a1 b.a1 i)] (aD h (λx h=>?_) λx h=>?_)
  ·cases h;exact ae c aG
  cases h;exact aA (ae c aG)
theorem Zq{a}{b}{r}(h:BN n a b=aa r):bn G 250 [V.agg (fT a),V.agg (fT b)] (aY r):=bE aT func250 rfl λw X c=>ah c [.z (.b (ab)),.z (.b (ab))] (ao (au h λl d h=>ah c [ay (LM G d)] (aD h (λi h=>aw h▸ae c aG) λi h=>aA (ao (au h λm e h=>ah c [ay (Zt G n a.value b.value e)] (aD h (λk h=>aw h▸ae c aG) λk h=>aw h▸aA (ae c aG)))))))
theorem YD{a}{b}{r}(h:F5 n a b=aa r):bn G 194 [aJ ax a,aJ ax b] (aY r):=bE aT func194 rfl λw X c=>ae c (ao (ah c [aO ax a,aO ax b] (aD h (λl h=>aw h▸ae c aG) λl h=>aA (ao (ae c (bu (cz h (λm=>b4 [(0,aJ ax a),(1,aJ ax b),(5,Y m)]) aW λd q h=>ao (ah c [aO ax a] (aD h (λo h=>aA (bM (ao (cY h λs e x i y k h=>bK c bJ [a8 ax e,a8 ax i,ay (Zq G k)] (aD h (λp h=>aw h▸ae c aG) λp h=>aA (bt c (az h))))))) λo h=>aw h▸bG (ae c aG))))))))))
theorem Zr{a}{b}{r}(h:BO n a b=aa r):bn G 128 [V.agg (mc a),V.agg (mc b)] (aY r):=bE aT func128 rfl λw X c=>ah c [.z (.b (ab)),.z (.b (ab))] (ao (au h λl d h=>ah c [ay (YF G d)] (aD h (λi h=>aw h▸ae c aG) λi h=>aA (ao (au h λm e h=>ah c [ay (YD G e)] (aD h (λk h=>aw h▸ae c aG) λk h=>aw h▸aA (ae c aG)))))))
theorem YE{a}{b}{r}(h:F6 n a b=aa r):bn G 49 [aJ an a,aJ an b] (aY r):=bE aT func49 rfl λw X c=>ae c (ao (ah c [aO an a,aO an b] (aD h (λl h=>aw h▸ae c aG) λl h=>aA (ao (ae c (bu (cz h (λm=>b4 [(0,aJ an a),(1,aJ an b),(5,Y m)]) aW λd q h=>ao (ah c [aO an a] (aD h (λo h=>aA (bM (ao (cY h λs e x i y k h=>bK c bJ [a8 an e,a8 an i,ay (Zr G k)] (aD h (λp h=>aw h▸ae c aG) λp h=>aA (bt c (az h))))))) λo h=>aw h▸bG (ae c aG))))))))))
theorem tp{a}{b}{r}(h:nA n a b=aa r):bn G 10 [V.agg (cH a),V.agg (cH b)] (aY r):=bE aT func10 rfl λw X c=>ah c [.z (.b (ab)),.z (.b (ab))] (ao (au h λl d h=>ah c [ay (Xz G d)] (aD h (λi h=>aw h▸ae c aG) λi h=>aA (ao (au h λm e h=>ah c [ay (YE G e)] (aD h (λk h=>aw h▸ae c aG) λk h=>aw h▸aA (ae c aG)))))))
theorem ri{k}{r}(h:j3 n k=aa r):bn G 129 [Y k] (cc r):=by refine bE aT func129 rfl λw X a=>ae a (ao (ae a (aD h (λl h=>aw h▸ae a aG) λl h=>aA (ae a (bM (cz h (λi=>b4 [(0,Y i.1),(3,cc i.2)]) aW ?_))))));rintro b ⟨c,o⟩ h;exact ao (ae a (aD h (λm h=>aA (bu (au h λp d h=>ah a [.z (.y (UInt8.ofInt (wr (48+(Int.tmod c 10))))),.z (.int 0),.z (.str [UInt8.ofInt (wr (48+(Int.tmod c 10)))]),ar (show(10:Int)≠0 by decide),ar (bc (UInt8.ofInt (wr (48+(Int.tmod c 10))))),ar (bc (bj p' [UInt8.ofInt (wr (48+(Int.tmod c 10)))])),Sn d] (aF a [ar (show(10:Int)≠0 by decide)] (az h))))) λm h=>bG (au h λq e h=>aw h▸ah a [Sn e] aG)))
theorem t8{a}{k}{r}(h:nB n a k=aa r):bn G 133 [aJ ai a,Y k] (Y r):=by refine bE aT func133 rfl λw X b=>ae b (ao (ae b (bu (cz h (λe=>b4 [(0,aJ ai a),(1,Y e.1),(5,Y e.2)]) aW ?_))));rintro c ⟨m,o⟩ h;exact ao (ah b [aO ai a] (aD h (λi h=>aA (bM (ao (au h λp d h=>ah b [a8 ai d] (aD h (λl h=>aw h▸ae b aG) λl h=>aA (bt b (bt b (az h)))))))) λi h=>aw h▸bG (ae b aG)))
theorem VT{a}{k}{r}(h:wi n a k=aa r):bn G 52 [aJ a6 a,Y k] (Y r):=by refine bE aT func52 rfl λw X b=>ae b (ao (ae b (bu (cz h (λl=>b4 [(0,aJ a6 a),(1,Y l.1),(5,Y l.2)]) aW ?_))));rintro d ⟨q,s⟩ h;exact ao (ah b [aO a6 a] (aD h (λm h=>aA (bM (ao (ao (bY h λx c y e h=>bK b bJ [a8 a6 c,ay (ri G e)] (aD h (λo h=>aw h▸ae b aG) λo h=>aA (ae b (au h λz i h=>ah b [a8 a6 c,ay (t8 G i)] (ae b (aD h (λp h=>aw h▸ae b aG) λp h=>aA (bt b (az h)))))))))))) λm h=>aw h▸bG (ae b aG)))
theorem y9{a}{k}{r}(h:kD n a k=aa r):bn G 197 [aJ aq a,Y k] (Y r):=by refine bE aT func197 rfl λw X b=>ae b (ao (ae b (bu (cz h (λi=>b4 [(0,aJ aq a),(1,Y i.1),(5,Y i.2)]) aW ?_))));rintro d ⟨p,q⟩ h;exact ao (ah b [aO aq a] (aD h (λl h=>aA (bM (bY h λs c x e h=>ah b [a8 aq c,ay (t8 G e)] (ao (ae b (aD h (λm h=>aw h▸ae b aG) λm h=>aA (ao (ah b [a8 aq c] (aD h (λo h=>aw h▸ae b aG) λo h=>aA (bt b (bt b (az h)))))))))))) λl h=>aw h▸bG (ae b aG)))
theorem WK{a}{k}{r}(h:tw n a k=aa r):bn G 134 [aJ av a,Y k] (Y r):=by refine bE aT func134 rfl λw X b=>ae b (ao (ae b (bu (cz h (λl=>b4 [(0,aJ av a),(1,Y l.1),(5,Y l.2)]) aW ?_))));rintro d ⟨q,s⟩ h;exact ao (ah b [aO av a] (aD h (λm h=>aA (bM (bY h λx c y e h=>ah b [a8 av c,ay (y9 G e)] (ao (ae b (aD h (λo h=>aw h▸ae b aG) λo h=>aA (au h λz i h=>ah b [a8 av c,ay (y9 G i)] (ae b (aD h (λp h=>aw h▸ae b aG) λp h=>aA (bt b (az h))))))))))) λm h=>aw h▸bG (ae b aG)))
theorem WL(G:cL): ∀(n:Nat) (a:List Expr) (k:Int) {r:Int} (h:ng n a k=aa r),bn G 198 [aJ aI a,Y k] (Y r):=by
 intro n;induction n with
 |zero=>intro a k r h;rw[ng.eq_def] at h;cases h
 |succ n q=>
  intro a k r h;rw[ng.eq_def] at h;dsimp only at h;refine bE aT func198 rfl λw X b=>ae b (ao (ae b (bu (cz h (λp=>b4 [(0,aJ aI a),(1,Y p.1),(5,Y p.2)]) aW ?_))));rintro e ⟨K,L⟩ h;refine ao (ah b [aO aI a] (aD h (λs h=>?_) λs h=>?_))
  ·refine aA (bM (ao ?_));obtain⟨c,d,h⟩:=c9 h;refine ah b [.z (.row (bm c)),ar (fZ aI d (cQ c))] (aD h (λx h=>?_) λx h=>?_)
   ·obtain rfl:=aw h;exact ae b aG
   refine aA (ae b (ao (ah b [.z (.row (bm c)),ar (fZ aI d (cQ c))] (aD h (λy h=>?_) λy h=>?_))))
   ·obtain rfl:=aw h;exact ae b aG
   refine aA (ae b ?_);obtain⟨Q,i,h⟩:=c9 h;refine ah b [.z (.row (bm c)),ar (fZ aI d (cQ c)),ay (t8 G i)] (ao (ae b (aD h (λA h=>?_) λA h=>?_)))
   ·obtain rfl:=aw h;exact ae b aG
   refine aA (ao (ah b [.z (.row (bm c)),ar (fZ aI d (cQ c))] (aD h (λB h=>?_) λB h=>?_)))
   ·obtain rfl:=aw h;exact ae b aG
   refine aA (ae b (ao (ao ?_)));obtain⟨R,l,h⟩:=c9 h;refine bK b bJ [.z (.row (bm c)),ar (fZ aI d (cQ c)),ay (ri G l)] (aD h (λC h=>?_) λC h=>?_)
   ·obtain rfl:=aw h;exact ae b aG
   refine aA (ae b ?_);obtain⟨D,m,h⟩:=c9 h;refine ah b [.z (.row (bm c)),ar (fZ aI d (cQ c)),ay (y9 G m)] (ao (ae b (aD h (λF h=>?_) λF h=>?_)))
   ·obtain rfl:=aw h;exact ae b aG
   refine aA ?_;obtain⟨W,o,h⟩:=c9 h;refine ah b [.z (.row (bm c)),ar (fZ aI d (cQ c)),ay (q c.a1 D o)] (ae b (aD h (λH h=>?_) λH h=>aA (bt b (az h))));obtain rfl:=aw h;exact ae b aG
  obtain rfl:=aw h;exact bG (ae b aG)
theorem WI{a}{k}{r}(h:tv n a k=aa r):bn G 135 [aJ ax a,Y k] (Y r):=by refine bE aT func135 rfl λw X b=>ae b (ao (ae b (bu (cz h (λs=>b4 [(0,aJ ax a),(1,Y s.1),(5,Y s.2)]) aW ?_))));rintro e ⟨R,W⟩ h;exact ao (ah b [aO ax a] (aD h (λx h=>aA (bM (ao (ao (bY h λy c f i h=>bK b bJ [a8 ax c,ay (ri G i)] (aD h (λz h=>aw h▸ae b aG) λz h=>aA (ae b (au h λg l h=>ah b [a8 ax c,ay (y9 G l)] (ao (ae b (aD h (λA h=>aw h▸ae b aG) λA h=>aA (ao (ah b [a8 ax c] (aD h (λB h=>aw h▸ae b aG) λB h=>aA (ae b (ao (ah b [a8 ax c] (aD h (λC h=>aw h▸ae b aG) λC h=>aA (ae b (au h λj m h=>ah b [a8 ax c,ay (t8 G m)] (ao (ae b (aD h (λD h=>aw h▸ae b aG) λD h=>aA (ao (ah b [a8 ax c] (aD h (λF h=>aw h▸ae b aG) λF h=>aA (ae b (ao (ao (au h λt o h=>bK b bJ [a8 ax c,ay (ri G o)] (aD h (λH h=>aw h▸ae b aG) λH h=>aA (ae b (au h λK p h=>ah b [a8 ax c,ay (y9 G p)] (ao (ae b (aD h (λL h=>aw h▸ae b aG) λL h=>aA (au h λQ d h=>ah b [a8 ax c,ay (WL G n y.value.a1 K d)] (ae b (aD h (λq h=>aw h▸ae b aG) λq h=>aA (bt b (az h))))))))))))))))))))))))))))))))))))))))) λx h=>aw h▸bG (ae b aG)))
theorem WJ{a}{k}{r}(h:wv n a k=aa r):bn G 53 [aJ an a,Y k] (Y r):=by refine bE aT func53 rfl λw X b=>ae b (ao (ae b (bu (cz h (λl=>b4 [(0,aJ an a),(1,Y l.1),(5,Y l.2)]) aW ?_))));rintro d ⟨q,s⟩ h;exact ao (ah b [aO an a] (aD h (λm h=>aA (bM (bY h λx c y e h=>ah b [a8 an c,ay (WK G e)] (ao (ae b (aD h (λo h=>aw h▸ae b aG) λo h=>aA (au h λz i h=>ah b [a8 an c,ay (WI G i)] (ae b (aD h (λp h=>aw h▸ae b aG) λp h=>aA (bt b (az h))))))))))) λm h=>aw h▸bG (ae b aG)))
theorem KN{a}{k}{r}(h:tj n a k=aa r):bn G 12 [V.agg (cH a),Y k] (Y r):=bE aT func12 rfl λw X c=>ah c [.z (.b (ab))] (au h λm d h=>ah c [ay (VT G d)] (ao (ae c (aD h (λi h=>aw h▸ae c aG) λi h=>aA (au h λo e h=>ah c [ay (WJ G e)] (ao (ae c (aD h (λl h=>aw h▸ae c aG) λl h=>aw h▸aA (ae c aG)))))))))
end Go.Lift
