/- Tools. -/
import Derived.Test.YteifkndfpnkalabGreatVTab
set_option maxRecDepth 10000
set_option linter.unusedVariables false
namespace Go.Lift
open Go Go.Proofs Go.Proofs.Tryz
open Option renaming some -> aa, none -> ak, map_some -> gP
open Bool renaming true -> ab, false -> al
open Decidable renaming decide -> aj
open Go.Builtin renaming zeroCells -> eh
open List renaming replicate -> dh, map -> bk
open Int renaming toNat -> bt
open Eq renaming refl -> bd
section
variable (G:cK){n:Nat}
theorem V5{l}{a}{r}(h:EX n l a=aa r):bm G 295 [V.agg (iy l),aI ai a] (V.bY [Y r.1,Y r.2]):=by refine bE aT func295 rfl λw X c=>ag c [.z (.b (ab))] (ao (cX h λQ o R p W q h=>au h λA s h=>bK c bJ [a8 aq o,ay (y3 G p),a8 aq q,ay (y3 G s)] (ao (ag c [aN aq l.bq] (bu (cv h (λd=>b2 [(1,aI ai a),(2,V.aU (aw l)),(6,Y d.1),(7,Y A),(25,aI aq l.bq),(26,Y (l.bq.length:Int)),(27,Y d.2)]) aV ?_))))));rintro m ⟨B,f⟩ h;refine ad c (da h (λC h=>aA (bH (au h λg x h=>ag c [a8 aq x,.z (.nat 20)] (au h λj y h=>aG c [ay (y3 G y)] (bs c (az h)))))) λC h=>bF (ao (ag c [aN aq l.aL] (bu (cv h (λd=>b2 [(1,aI ai a),(6,Y B),(7,Y d.1),(38,aI aq l.aL),(39,Y (l.aL.length:Int)),(40,Y d.2)]) aV ?_)))));rintro e ⟨D,F⟩ h;exact ad c (da h (λH h=>aA (bH (au h λK i h=>ag c [a8 aq i,.z (.nat 20)] (au h λL k h=>aG c [ay (y3 G k)] (bs c (az h)))))) λH h=>av h▸bF (ad c aF))
theorem US(G:cK): ∀(n:Nat) (c:nm) (a:Nat) (b:List Int) {r:Bool×nm} (h:q5 n c b=aa r),b' G 258 [E.cells [aI aw c.nest,Y c.steps,ms 1 a 1 (bj ai) c.out],aK 67 a 1 (bj ai) c.out] [V.ref 0 0,aI ai b] (aW r.1) [E.cells [aI aw r.2.nest,Y r.2.steps,ms 1 (a+1) 1 (bj ai) r.2.out],aK 67 (a+1) 1 (bj ai) r.2.out]:=by
 intro n;induction n with
 |zero=>intro c a b r h;rw[q5.eq_def] at h;cases h
 |succ n N=>
  intro c a b r h;rw[q5.eq_def] at h;dsimp only at h;refine cj aT func258 rfl λw X P d K=>ad d (ao (ag d [aN ai b,aN aw c.nest] (aD h (λS h=>?_) λS h=>?_)))
  ·refine ao ?_;obtain⟨T,L,H,Q,h⟩:=h8 h;cases h;exact bK d bJ [a' [] [20] (G.clone b L),.z (.at 5),.z (.bT 20 [22] []),.z (.int 0),cq (cU (bj ai) Q),ar (kT (r:=(bj ai)) 1 (λ_=>rfl) c.out),ar (kT (r:=(bj ai)) 1 (λ_=>rfl) [T])] (ag d [aN (bj ai) H] (rn (Fu 0 2 1 a (a+1) 1 0 (bk (bj ai) H).length (e:= .arr 67 (a+1) 1 (bk (bj ai) H)) (cs:=[aI aw c.nest,Y c.steps,ms 1 (a+1) 1 (bj ai) H]) rfl J J J J rfl rfl K.2.1) b0))
  refine aA ?_;obtain⟨js,R,M,W,h⟩:=h8 h;refine ag d [aN ai b,a8 aw R,ay (V5 G W)] (ao (ad d (bu (cT h (λi q=>bx [(0,V.ref 0 0),(1,aI ai b),(6,Y M.2),(7,Y i.2.2.2)] [(0,E.cells [aI aw i.1,Y i.2.1,ms 1 q 1 (bj ai) i.2.2.1]),(1,aK 67 q 1 (bj ai) i.2.2.1)] [0,1]) a (aV) ?_))));rintro s ⟨f,g,x,t⟩ p h;refine ao (ad d (aD h (λU h=>?_) λU h=>?_))
  ·refine aA (bH (ad d ?_));obtain⟨u,y,h⟩:=nu h;refine mV (γ:=Nat) (j:=u) (r:=r) (λi q=>bx [(0,V.ref 0 0),(1,aI ai b),(6,Y M.2),(7,Y t),(74,aW i.2.2.2)] [(0,E.cells [aI aw i.1,Y i.2.1,ms 1 q 1 (bj ai) i.2.2.1]),(1,aK 67 q 1 (bj ai) i.2.2.1)] [0,1]) ?_ ?_
   ·refine bh h (λk h=>?_) λk h=>aG d (aX 9 k) ⟨(f,wr (g+1),x,ab),p,h,aV⟩;obtain⟨v,A,I,B,l,C,h⟩:=qK h;exact aG d (aR 3 k++[a' [] [20] (G.clone b A),aO k,aO k,.z (.int 0),aO k,cq (cU ai B),.z (.at 3),.z (.bT 20 [71] []),dE v,dE [t],aO k,a' [0,1] [] (N (⟨f,wr (g+1),x⟩:nm) p I C),aO k,aO k]) ⟨(l.2.nest,l.2.steps,l.2.out, !l.1),(p+1),h,aV⟩
   rintro⟨D,F,m,n'⟩ o h;subst y;refine aD h (λh' h=>?_) λh' h=>aA (bs d ⟨(D,F,m,wr (t+1)),o,h,aV⟩);cases h;exact ad d (rn (Fu 0 2 1 a o 1 0 (bk (bj ai) m).length (e:= .arr 67 o 1 (bk (bj ai) m)) (cs:=[aI aw D,Y F,ms 1 o 1 (bj ai) m]) rfl J J J J rfl rfl K.2.1) b0)
  cases h;exact bF (ad d (rn (Fu 0 2 1 a p 1 0 (bk (bj ai) x).length (e:= .arr 67 p 1 (bk (bj ai) x)) (cs:=[aI aw f,Y g,ms 1 p 1 (bj ai) x]) rfl J J J J rfl rfl K.2.1) b0))
theorem VS{nest}{r}(h:Eh n nest=aa r):b' G 204 [] [aI aw nest] (V.bY [ms 0 1 1 (bj ai) r.1,aW r.2]) [aK 67 1 1 (bj ai) r.1]:=cj aT func204 rfl λw X d a k=>ad a (ao (au h λl b h=>ag a [ay (V4 G b)] (aD h (λe h=>av h▸ad a (aQ a [.grow 2 0 67] b0)) λe h=>aA (ag a [.z (.nat 20)] (ao (au h λm c h=>ag a [.z (.at 2),.z (.ch 20 2 21 67),a' [20,21] [] (US G n (⟨nest,0,[]⟩:nm) 1 [] c)] (aD h (λi h=>av h▸ad a (aQ a [.grow 2 0 67] b0)) λi h=>av h▸aA (ad a (fa a 2 21)))))))))
variable {r:Bool}{x:List (List Int)}{b:List Part}{k:Type}{l:List k}{i:Int}{y:k}
theorem VN(G:cK)(n:Nat)(s:aE)(a:Int)(h:zj n s a=aa r):bm G 296 [V.agg (cF s),V.aU [T.int .i64 a]] (aW r):=bE aT func296 rfl λw X e=>ag e [.z (.b (ab))] (bZ h (λk=>b2 [(3,aW k)]) (λl h=>au h λm c h=>bh h (λd h=>au h λo i h=>bK e bJ ([ay (sO G c),aO d,aO d,ay (sK G i)]++aR 3 d) (az h)) λd h=>bK e bJ ([ay (sO G c)]++aX 5 d) (az h)) λp h=>av h▸aF)
theorem t6{a}{c}{r}(h:zS n a c=aa r):bm G 260 [V.agg (d8 a),Y c] (aW r):=bE aT func260 rfl λw X l=>ag l [.z (.b (ab)),.z (.b (ab))] (bZ h (λp=>b2 [(4,aW p)]) (λq h=>au h λs e h=>bh h (λd h=>aG l ([ay (pJ G e)]++aR 5 d++eF 6) (az h)) λd h=>au h λx i h=>bh h (λk h=>aG l ([ay (pJ G e)]++aX 3 d++[aN aq a.ba,aY d,ay (ga G i),aY d]++aR 6 k) (az h)) λk h=>au h λy m h=>aG l ([ay (pJ G e)]++aX 3 d++[aN aq a.ba,aY d,ay (ga G i),aY d]++aX 4 k++[ay (yq G n a.ba 296 [T.int .i64 c] (λo=>zj n o c) (λo r h=>VN G n o c h) m),aY k,aY k]) (az h)) λA h=>av h▸aF)
theorem wi{a}{r}(h:zQ n a=aa r):bm G 298 [V.agg (cF a)] (aW r):=bE aT func298 rfl λw X c=>ag c [.z (.b (ab))] (bZ h (λe=>b2 [(2,aW e)]) (λi h=>bh h (λd h=>aG c ([aN ai a.aM]++aR 4 d) (az h)) λd h=>aG c ([aN ai a.aM]++aX 4 d) (az h)) λk h=>av h▸aF)
theorem En{a}{r}(h:tE n a=aa r):bm G 299 [V.agg (d8 a)] (aW r):=bE aT func299 rfl λw X d=>ag d [.z (.b (ab))] (bZ h (λe=>b2 [(2,aW e)]) (λi h=>bh h (λc h=>aG d (aR 5 c) (az h)) λc h=>aG d (aX 3 c++[aN aq a.ba,aY c,aY c]) (az h)) λk h=>av h▸aF)
theorem He{kind}{r}(h:se n kind=aa r):bm G 247 [Y kind] (aW r):=bE aT func247 rfl λw X b=>ad b (au h λc a h=>av h▸ag b [ay (ga G a)] aF)
theorem Xk(G:cK): ∀(n:Nat) (e:Expr) (a:Int) (c:Int) (count:Int) {r:Bool×Int} (h:pH n e a c count=aa r),b' G 261 [E.cells [Y count]] [V.agg (ee e),Y a,Y c,V.ref 0 0] (aW r.1) [E.cells [Y r.2]]:=by
 intro n;induction n with
 |zero=>intro e a c count r h;rw[pH.eq_def] at h;cases h
 |succ n P=>
  intro e a c count r h;rw[pH.eq_def] at h;dsimp only at h;refine cj aT func261 rfl λw X hi d bV=>ag d [.z (.b (ab))] (ad d (ao (bZ h (λl=>bx [(1,Y a),(2,Y c),(3,V.ref 0 0),(4,V.aU (bn e)),(21,aW l)] [(0,E.cells [Y (wr (count+1))])] [0]) (λyT h=>bh h (λS h=>aG d (aR 3 S) (az h)) λS h=>aG d (aX 3 S) (az h)) λk0 h=>?_)));refine aD h (λc2 h=>?_) λc2 h=>?_
  ·cases h;exact ad d b0
  refine aA (ao (bZ h (λl=>bx [(1,Y a),(2,Y c),(3,V.ref 0 0),(4,V.aU (bn e)),(51,aW l)] [(0,E.cells [Y (wr (count+1))])] [0]) (λalp h=>?_) λET h=>?_))
  ·refine bh h (λy h=>?_) λy h=>?_
   ·refine bh h (λm h=>?_) λm h=>?_
    ·refine bh h (λv h=>aG d (aR 4 y++eF 4++aR 4 m++[cf,aO m]++eF 5++aR 4 v++[cf,aO v,cf]) (az h)) λv h=>?_;obtain⟨ma,T,h⟩:=c9 h;exact aG d (aR 4 y++eF 4++aR 4 m++[cf,aO m]++eF 5++aX 3 v++[ay (En G T),aY v,cf,aY v,cf]) (az h)
    obtain⟨ur,j,h⟩:=c9 h;refine bh h (λK h=>?_) λK h=>aG d (aR 4 y++eF 4++aX 3 m++[ay (wi G j),aY m,cf,aY m,cf]++aX 6 K) (az h);refine bh h (λI h=>aG d (aR 4 y++eF 4++aX 3 m++[ay (wi G j),aY m,cf,aY m,cf]++aR 4 K++aR 4 I++[aO K,aO I,aO K]) (az h)) λI h=>?_;obtain⟨EW,U,h⟩:=c9 h;exact aG d (aR 4 y++eF 4++aX 3 m++[ay (wi G j),aY m,cf,aY m,cf]++aR 4 K++aX 3 I++[ay (En G U),aY I,aO K,aY I,aO K]) (az h)
   refine bh h (λi h=>?_) λi h=>aG d (aX 4 y++aX 6 i++d' 6) (az h);refine bh h (λo h=>?_) λo h=>?_
   ·refine bh h (λp h=>aG d (aX 4 y++aR 4 i++aR 4 o++[aO i,aO o,aO i]++eF 4++aR 4 p++[cf,aO p,cf]) (az h)) λp h=>?_;obtain⟨kp,ah5,h⟩:=c9 h;exact aG d (aX 4 y++aR 4 i++aR 4 o++[aO i,aO o,aO i]++eF 4++aX 3 p++[ay (En G ah5),aY p,cf,aY p,cf]) (az h)
   obtain⟨k1,t,h⟩:=c9 h;refine bh h (λk h=>?_) λk h=>aG d (aX 4 y++aR 4 i++aX 3 o++[ay (wi G t),aY o,aO i,aY o,aO i]++aX 6 k) (az h);refine bh h (λq h=>aG d (aX 4 y++aR 4 i++aX 3 o++[ay (wi G t),aY o,aO i,aY o,aO i]++aR 4 k++aR 4 q++[aO k,aO q,aO k]) (az h)) λq h=>?_;obtain⟨o8,ah6,h⟩:=c9 h;exact aG d (aX 4 y++aR 4 i++aX 3 o++[ay (wi G t),aY o,aO i,aY o,aO i]++aR 4 k++aX 3 q++[ay (En G ah6),aY q,aO k,aY q,aO k]) (az h)
  refine aD h (λIY h=>?_) λIY h=>?_
  ·cases h;exact ad d b0
  refine aA (bH (ad d (aD h (λym h=>?_) λym h=>?_)))
  ·refine bZ h (λl=>bx [(8,aW l)] [(0,E.cells [Y (wr (count+1))])] [0]) (λSi h=>?_) λrQ h=>?_
   ·obtain⟨KE,L,h⟩:=c9 h;exact bh h (λA h=>aG d ([ay (ga G L)]++aR 5 A) (az h)) λA h=>aG d ([ay (ga G L)]++aX 3 A++[aN aJ e.aZ,aY A,aY A]) (az h)
   cases h;exact b0
  refine ad d (aD h (λaf7 h=>?_) λaf7 h=>?_)
  ·refine bZ h (λl=>bx [(8,aW l)] [(0,E.cells [Y (wr (count+1))])] [0]) (λais h=>?_) λw7 h=>?_
   ·obtain⟨rR,B,h⟩:=c9 h;refine bh h (λs h=>aG d ([ay (sO G B)]++aR 6 s++eF 5) (az h)) λs h=>?_;obtain⟨z1,Q,h⟩:=c9 h;exact bh h (λC h=>aG d ([ay (sO G B)]++aX 3 s++[ay (sK G Q)]++aX 3 s++aR 5 C) (az h)) λC h=>aG d ([ay (sO G B)]++aX 3 s++[ay (sK G Q)]++aX 3 s++aX 3 C++[aN aJ e.aZ,aY C,aY C]) (az h)
   cases h;exact b0
  refine ad d (aD h (λIZ h=>?_) λIZ h=>?_)
  ·refine bZ h (λl=>bx [(8,aW l)] [(0,E.cells [Y (wr (count+1))])] [0]) (λakj h=>?_) λrT h=>?_
   ·obtain⟨rS,R,h⟩:=c9 h;exact bh h (λD h=>aG d ([ay (t6 G R)]++aR 5 D) (az h)) λD h=>aG d ([ay (t6 G R)]++aX 3 D++[aN aJ e.aZ,aY D,aY D]) (az h)
   cases h;exact b0
  refine bZ h (λl=>bx [(1,Y a),(2,Y c),(3,V.ref 0 0),(4,V.aU (bn e)),(99,aW l)] [(0,E.cells [Y (wr (count+1))])] [0]) (λaiv h=>?_) λuk h=>?_
  ·obtain⟨uj,W,h⟩:=c9 h;exact bh h (λF h=>aG d ([ay (He G W)]++aR 3 F++[aN aJ e.aZ,aO F,aO F]) (az h)) λF h=>aG d ([ay (He G W)]++aX 5 F) (az h)
  refine aD h (λI1 h=>?_) λI1 h=>?_
  ·cases h;exact ad d b0
  refine aA (bZ h (λl=>bx [(8,aW l.2)] [(0,E.cells [Y l.1])] [0]) (λJ3 h=>?_) ?_)
  ·obtain⟨x,f,uq,g,h⟩:=h8 h;refine bh h (λH h=>aG d ([.z (.row (bn x)),ar (gb aJ f (cP x)),a' [0] [] (P x a (wr (c+1)) (wr (count+1)) g)]++aR 10 H) (az h)) λH h=>?_;obtain⟨u,M,z6,N,h⟩:=h8 h;exact aG d ([.z (.row (bn x)),ar (gb aJ f (cP x)),a' [0] [] (P x a (wr (c+1)) (wr (count+1)) g)]++aX 3 H++[.z (.row (bn u)),ar (gb aJ M (cP u))]++aX 6 H++[a' [0] [] (P u a (wr (c+1)) uq.2 N),aY H]) (az h)
  rintro⟨EV,KF⟩ h;cases h;exact b0
theorem Wt{s}{a}{r}(h:Ey n s a=aa r):bm G 207 [V.agg (fU s),Y a] (aW r):=by refine bE aT func207 rfl λw X e=>ag e [.z (.b (ab))] (ag e [.z (.nat 20)] (bZ h (λm=>bx [(4,aW m.2)] [(20,E.cells [Y m.1])] [20]) (λo h=>au h λp c h=>bh h (λd h=>aG e ([ay (ga G c)]++aR 5 d++eF 5) (az h)) λd h=>au h λq i h=>bh h (λk h=>aG e ([ay (ga G c)]++aX 4 d++[ay (t6 G i),aY d]++aR 5 k) (az h)) λk h=>au h λx l h=>aG e ([ay (ga G c)]++aX 4 d++[ay (t6 G i),aY d]++aX 4 k++[a' [20] [] (Xk G n s.value a 1 0 l),aY k]) (az h)) ?_));rintro⟨y,A⟩ h;exact av h▸aF
theorem alg(G:cK)(n:Nat)(s:Stmt)(a:Part)(h:yv n s a=aa r):bm G 206 [V.agg (fU s),V.aU (an a)] (aW r):=bE aT func206 rfl λw X d=>ag d [.z (.b (ab))] (au h λe c h=>av h▸ag d [aN aw a.nest,ay (Wt G c)] aF)
theorem Wq(G:cK)(n:Nat)(a:Int)(h:zs n a=aa r):bm G 262 [Y a] (aW r):=bE aT func262 rfl λw X c=>ad c (au h λd b h=>av h▸ag c [ay (ga G b)] aF)
theorem Yw{a}{r}(h:A5 n a=aa r):bm G 208 [aI ai a] (aW r):=bE aT func208 rfl λw X c=>ad c (bZ h (λi=>b2 [(2,aW i)]) (λk h=>bh h (λb h=>aG c ([aN ai a]++aR 4 b) (az h)) λb h=>au h λl d h=>aG c [aN ai a,aY b,aY b,ay (f9 G n a 262 (λe=>zs n e) (λe r h=>Wq G n e h) d),aY b,aY b] (az h)) λm h=>av h▸aF)
theorem NO(G:cK): ∀(n:Nat) (e:Expr) {r:(List cx)} (h:q4 n e=aa r),b' G 240 [] [V.agg (ee e)] (ms 0 1 2 eI r) [aK 113 1 2 eI r]:=by
 intro n;induction n with
 |zero=>intro e r h;rw[q4.eq_def] at h;cases h
 |succ n p=>
  intro e r h;rw[q4.eq_def] at h;dsimp only at h;refine cj aT func240 rfl λw X q a F=>ag a [.z (.b (ab))] (ao (ad a (aD h (λs h=>?_) λs h=>?_)))
  ·obtain rfl:=av h;exact ag a [.z (.int 1),.z (.nat 20)] (fa a 2 20)
  refine aA (ad a (ao (ag a [aN aJ e.aZ] (bu (aQ a [.grow 3 20 113] ?_)))));refine cT h (λd o=>bx [(3,ms 20 o 2 eI d.1),(13,aI aJ e.aZ),(14,Y (e.aZ.length:Int)),(15,Y d.2)] [(20,aK 113 o 2 eI d.1)] [20]) 1 (aV) ?_;rintro c ⟨x,y⟩ A h;refine ad a (da h (λB h=>?_) λB h=>?_)
  ·refine aA (bH ?_);obtain⟨i,k,h⟩:=c9 h;refine ag a [.z (.row (bn i)),.z (.nat 21),ar (gb aJ k (cP i))] ?_;obtain⟨C,l,D,m,h⟩:=h8 h;exact aG a [a' [] [22] (p i l),.z (.at 2),.z (.bT 22 [21] []),cq (cU eI m),b4 2 EL x,b4 2 EL C] (bs a ⟨(D,wr (y+1)),(A+1),h,aV⟩)
  obtain rfl:=av h;exact bF (ad a (fa a 2 20))
theorem K9{a}{r}(h:Ej n a=aa r):bm G 285 [V.agg [cc a.name,aI ai a.b9]] (Y r):=by refine bE aT func285 rfl λw X c=>ag c [.z (.b (ab))] (ad c (ao (ag c [aN ai a.b9] (bu (cv h (λi=>b2 [(3,Y i.1),(7,aI ai a.b9),(8,Y (a.b9.length:Int)),(9,Y i.2)]) aV ?_)))));rintro d ⟨l,m⟩ h;exact ad c (da h (λk h=>aA (bH (au h λo e h=>ag c [a8 ai e] (bs c (bs c (az h)))))) λk h=>av h▸bF (ad c aF))
theorem yX{p}{a}{d}{r}(h:tb n p a d=aa r):bm G 241 [V.agg (cC p),V.agg (d8 a),aI ai d] (Y r):=by
 refine bE aT func241 rfl λw X c=>ag c [.z (.b (ab)),.z (.b (ab))] (ad c (ao (ag c [aN a6 p.a7] (bu (cv h (λi=>b2 [(2,aI ai d),(4,V.aU (eI a)),(7,Y i.1),(15,aI a6 p.a7),(16,Y (p.a7.length:Int)),(17,Y i.2)]) aV ?_)))));rintro m ⟨A,R⟩ h;refine ad c (da h (λB h=>?_) λB h=>?_)
 ·refine aA (bH (au h λq s h=>ag c [a8 a6 s,.z (.nat 20)] (ao (ad c (aD h (λC h=>au h λW x h=>ag c [ay (K9 G x)] (bF (bs c (az h)))) λC h=>aA (ao (ag c [aN aq a.ba,aN ai q.b9] (aD h (λD h=>av h▸ad c aF) λD h=>aA (ad c (ao (ag c [aN aq a.ba] (bu (cv h (λi=>bx [(2,aI ai d),(7,Y A),(9,V.ref 20 0),(10,Y i.1),(38,aI aq a.ba),(39,Y (a.ba.length:Int)),(40,Y i.2)] [(20,E.cells [cc q.name,aI ai q.b9])] [20]) aV ?_)))))))))))));rintro o ⟨f,g⟩ h;exact ad c (da h (λF h=>aA (bH (au h λj y h=>ag c [a8 aq y,.z (.nat 21)] (au h λH k h=>ag c [ay (y3 G k)] (ao (bU h λK e L l h=>ag c [a8 ai e,ay (ga G l)] (aD h (λQ h=>av h▸ad c aF) λQ h=>aA (aG c [a8 ai e] (bs c (az h)))))))))) λF h=>av h▸bF (ad c aF))
 exact av h▸bF (ad c aF)
theorem TZ(G:cK)(n:Nat)(a:cx)(c:Prog)(d:List Int)(h:yR n a c d=aa r):bm G 264 [V.agg (d8 a),V.aU (e6 c),V.aU [T.bG (bk ai d)]] (aW r):=bE aT func264 rfl λw X i=>ag i [.z (.b (ab))] (au h λk e h=>av h▸ag i [ay (yX G e)] aF)
theorem ale(G:cK)(n:Nat)(s:List cx)(e:FuncId)(b:List T)(c:List T)(f:cx->Option Bool)(m: ∀(l:cx) r,f l=aa r->bm G e [V.agg (d8 l),V.aU b,V.aU c] (aW r)){r:Int}(h:Kf n s f=aa r):bm G 300 [aI eI s,V.fn e [V.aU b,V.aU c]] (Y r):=by
 refine bE aT func300 rfl λw X a=>ad a (ao (ag a [aN eI s] (bu (cv h (λo=>b2 [(0,aI eI s),(1,V.fn e [V.aU b,V.aU c]),(7,Y (s.length:Int)),(8,Y o)]) aV λd y h=>ad a (da h (λp h=>?_) λp h=>?_)))))
 ·refine aA (bH (ad a (bU h λq i z k h=>ag a [a8 eI i,ay (m q _ k)] (aD h (λx h=>?_) λx h=>aA (bs a (az h))))));obtain rfl:=av h;exact ad a aF
 obtain rfl:=av h;exact bF (ad a aF)
theorem ala(G:cK)(n:Nat)(s:List cx)(c:FuncId)(a:List T)(b:List T)(f:cx->Option Bool)(k: ∀(e:cx) r,f e=aa r->bm G c [V.agg (d8 e),V.aU a,V.aU b] (aW r))(h:Dr n s f=aa r):bm G 263 [aI eI s,V.fn c [V.aU a,V.aU b]] (aW r):=by refine bE aT func263 rfl λw X i=>ad i (au h λl d h=>?_);cases h;exact ag i [ay (ale G n s c a b f k d)] aF
theorem UE{p}{s}{a}{r}(h:DE n p s a=aa r):bm G 209 [V.agg (cC p),V.agg (fU s),aI ai a] (aW r):=bE aT func209 rfl λw X e=>ag e [.z (.b (ab)),.z (.b (ab)),.z (.b (ab))] (bZ h (λm=>b2 [(6,aW m)]) (λq h=>au h λx d h=>bh h (λc h=>aG e ([ay (yX G d)]++aR 7 c) (az h)) λc h=>bU h λo i y k h=>aG e ([ay (yX G d)]++aX 3 c++[a' [] [20] (NO G n s.value i),aY c,aY c,.z (.b (ab)),ay (ala G n o 264 (e6 p) [T.bG (a.map ai)] (λl=>yR n l p a) (λl r h=>TZ G n l p a h) k),aY c,aY c]) (az h)) λA h=>av h▸aF)
theorem TW(G:cK)(n:Nat)(s:List Stmt)(d:FuncId)(b:List T)(f:Stmt->Option Bool)(l: ∀(k:Stmt) r,f k=aa r->bm G d [V.agg (fU k),V.aU b] (aW r)){r:Int}(h:Kl n s f=aa r):bm G 259 [aI ax s,V.fn d [V.aU b]] (Y r):=by
 refine bE aT func259 rfl λw X a=>ad a (ao (ag a [aN ax s] (bu (cv h (λm=>b2 [(0,aI ax s),(1,V.fn d [V.aU b]),(7,Y (s.length:Int)),(8,Y m)]) aV λc x h=>ad a (da h (λo h=>?_) λo h=>?_)))))
 ·refine aA (bH (ad a (bU h λp e y i h=>ag a [a8 ax e,ay (l p _ i)] (aD h (λq h=>?_) λq h=>aA (bs a (az h))))));obtain rfl:=av h;exact ad a aF
 obtain rfl:=av h;exact bF (ad a aF)
theorem alc(G:cK)(n:Nat)(s:List Stmt)(b:FuncId)(a:List T)(f:Stmt->Option Bool)(i: ∀(d:Stmt) r,f d=aa r->bm G b [V.agg (fU d),V.aU a] (aW r))(h:Dv n s f=aa r):bm G 205 [aI ax s,V.fn b [V.aU a]] (aW r):=by refine bE aT func205 rfl λw X e=>ad e (au h λk c h=>?_);cases h;exact ag e [ay (TW G n s b a f i c)] aF
theorem St{p}{r}(h:vl n p=aa r):b' G 140 [] [V.agg (cC p)] (V.bY [ms 0 1 3 cJ r.1,aW r.2]) [aK 107 1 3 cJ r.1]:=by
 refine cj aT func140 rfl λw X T a bV=>ag a [.z (.b (ab))] (ao (bZ h (λc=>b2 [(1,V.aU (e6 p)),(22,aW c)]) (λyT h=>au h λk0 q h=>bh h (λs h=>aG a ([ay (LM G q)]++aR 3 s++[aN an p.parts,aO s,aO s]) (az h)) λs h=>aG a ([ay (LM G q)]++aX 5 s) (az h)) λjs h=>aD h (λU h=>av h▸ad a (aQ a [.grow 2 0 107] b0)) λU h=>aA (ad a (ao (ag a [aN an p.parts] (bu (aQ a [.grow 4 20 107] (cT h (λc k=>bx [(1,V.aU (e6 p)),(4,ms 20 k 3 cJ c.1),(24,aI an p.parts),(25,Y (p.parts.length:Int)),(26,Y c.2)] [(20,aK 107 k 3 cJ c.1)] [20]) 1 (aV) ?_))))))));rintro g ⟨t,l⟩ u h;refine ad a (da h (λe5 h=>?_) λe5 h=>?_)
 ·refine aA (bH (au h λd v h=>ag a [a8 an v,.z (.nat 21),.z (.at 0),.z (.sM 21 [6])] (au h λi E h=>ag a [a' [] [22] (VS G E)] (ao (bZ h (λc=>bx [(1,V.aU (e6 p)),(4,ms 20 u 3 cJ t),(5,Y l),(6,V.aU (an d)),(7,ms 22 1 1 (bj ai) i.1),(24,aI an p.parts),(25,Y (p.parts.length:Int)),(26,Y l),(51,aW c)] [(20,aK 107 u 3 cJ t),(22,aK 67 1 1 (bj ai) i.1)] [20,21,22]) (λSh h=>bh h (λe h=>au h λw6 m h=>bh h (λj h=>au h λKE x h=>aG a (aR 3 e++[aN ax d.body,aO e,ay (ga G m),aO e,aO e]++aR 4 j++[ay (alc G n d.body 206 (an d) (λI=>yv n I d) (λI r h=>alg G n I d h) x),aO j]) (az h)) λj h=>aG a (aR 3 e++[aN ax d.body,aO e,ay (ga G m),aO e,aO e]++aX 5 j) (az h)) λe h=>aG a (aX 6 e++d' 5) (az h)) λrQ h=>aD h (λpr h=>av h▸ad a (aQ a [.grow 2 0 107] b0)) λpr h=>aA (ag a [aN (bj ai) i.1] (bu (cT h (λc k=>bx [(1,V.aU (e6 p)),(4,ms 20 k 3 cJ c.1),(5,Y l),(6,V.aU (an d)),(24,aI an p.parts),(25,Y (p.parts.length:Int)),(26,Y l),(52,ms 22 1 1 (bj ai) i.1),(53,Y (i.1.length:Int)),(54,Y c.2)] [(20,aK 107 k 3 cJ c.1),(22,aK 67 1 1 (bj ai) i.1)] [20,21,22]) u (aV) ?_))))))));rintro y ⟨M,A⟩ B h;refine ad a (da h (λsD h=>aA (bH (au h λC o h=>ag a [ar (bM (bj ai) o),bD (bj ai) o] (ao (au h λrS D h=>ag a [ay (Yw G D)] (aD h (λjd h=>av h▸ad a (aQ a [.grow 2 0 107] b0)) λjd h=>aA (ag a [aN ax d.body] (bu (cT h (λc k=>bx [(1,V.aU (e6 p)),(4,ms 20 k 3 cJ c.1),(5,Y l),(6,V.aU (an d)),(10,aI ai C),(24,aI an p.parts),(25,Y (p.parts.length:Int)),(26,Y l),(52,ms 22 1 1 (bj ai) i.1),(53,Y (i.1.length:Int)),(54,Y A),(62,aI ax d.body),(63,Y (d.body.length:Int)),(64,Y c.2)] [(20,aK 107 k 3 cJ c.1),(22,aK 67 1 1 (bj ai) i.1)] [20,21,22]) B (aV) ?_))))))))) λsD h=>bF (bs a ⟨(M,wr (l+1)),B,h,aV⟩));rintro F ⟨H,K⟩ L h;exact ad a (da h (λyn h=>aA (bH (au h λum Q h=>ag a [a8 ax Q,.z (.nat 23)] (ao (au h λuo R h=>ag a [ay (UE G R)] (aD h (λN h=>av h▸ad a (aQ a [.grow 2 0 107] b0)) λN h=>aA (bU h λP W S f h=>aG a [a' [] [24] (G.clone C W),.z (.at 4),.z (.bT 24 [78] []),.z (.int 0),cq (cU cJ f),b4 3 AW H,b4 3 AW [(⟨l,K,P⟩:cN)]] (bs a ⟨(S,wr (K+1)),(L+1),h,aV⟩)))))))) λyn h=>bF (bs a ⟨(H,wr (A+1)),L,h,aV⟩))
 exact av h▸bF (ag a [aN cJ t] (fa a 2 20))
theorem mC{p}{r}(h:tc n p=aa r):bm G 56 [V.agg (cC p)] (aW r):=bE aT func56 rfl λw X a=>ag a [.z (.b (ab))] (au h λd c h=>av h▸ag a [a' [] [20] (St G c)] (ad a aF))
theorem vQ(G:cK)(n:Nat)(a:aE){r:aE}(h:k7 n a=aa r):b' G 96 [] [V.agg (cF a)] (V.agg [ms 0 1 1 ai r.aM,Y r.const]) [aK 3 1 1 ai r.aM]:=cj aT func96 rfl λw X e c i=>ag c [.z (.b (ab)),.z (.nat 20)] (ao (au h λk d h=>av h▸bK c bJ [a' [] [21] (G.clone a.aM d)] (aQ c [.bp 21 0 [] [20]] b0)))
theorem KL(G:cK)(n:Nat)(a:aE){r:aE}(h:k7 n a=aa r):bm G 96 [V.agg (cF a)] (V.agg (cF r)):=bE aT func96 rfl λw X c=>ag c [.z (.b (ab)),.z (.nat 20)] (ao (au h λe d h=>av h▸bK c bJ [a' [] [21] (G.clone a.aM d)] (aQ c [.bT 21 [] [20]] aF)))
theorem Lp(G:cK)(n:Nat)(a:cx)(c:FuncId)(change:aE->Option aE)(d: ∀(p:aE) r,change p=aa r->bm G c [V.agg (cF p)] (V.agg (cF r))){r:cx}(h:q8 n a change=aa r):bm G 233 [V.agg (d8 a),V.fn c []] (V.agg (d8 r)):=by refine bE aT func233 rfl λw X e=>ag e [.z (.b (ab)),.z (.nat 20)] (ag e [.z (.nat 21)] (ao (ag e [aN aq a.ba] (bu (aQ e [.ch 21 1 22 92] (cT h (λk q=>bx [(1,V.fn c []),(4,V.ref 20 0),(5,V.ref 21 0),(12,aI aq a.ba),(13,Y (a.ba.length:Int)),(14,Y k.2)] [(20,E.cells [cc [],bw]),(21,E.cells [cc a.array,ms 22 q 2 aq k.1]),(22,aK 92 q 2 aq k.1)] [20,21,22]) 1 (aV) ?_))))));rintro i ⟨s,x⟩ y h;refine ad e (da h (λA h=>aA (bH (au h λB l h=>ag e [a8 aq l,.z (.nat 23)] (bU h λC m D o h=>bK e bJ [ay (d B _ m),.z (.int 0),cq (cU aq o),b4 2 f' s,b4 2 f' [C]] (bs e ⟨(D,wr (x+1)),(y+1),h,aV⟩))))) λA h=>?_);cases h;exact bF (ag e [.z (.at 2),.z (.bT 22 [] [21])] aF)
theorem Yx(G:cK): ∀(n:Nat) (e:Expr) (a:FuncId) (change:aE->Option aE) (c: ∀(B:aE) r,change B=aa r->bm G a [V.agg (cF B)] (V.agg (cF r))) {r:Expr} (h:kb n e change=aa r),bm G 234 [V.agg (ee e),V.fn a []] (V.agg (ee r)):=by
 intro n;induction n with
 |zero=>intro e a change c r h;rw[kb.eq_def] at h;cases h
 |succ n D=>
  intro e a change c r h;rw[kb.eq_def] at h;dsimp only at h;refine bE aT func234 rfl λw X d=>ag d [.z (.b (ab)),.z (.nat 20)] (ag d [.z (.nat 21)] (bZ h (λi=>bx [(1,V.fn a []),(2,V.aU (bn e)),(4,V.ref 20 0),(5,V.ref 21 0)] [(20,E.cells [Y 0,Y 0,bw,Y 0,cc [],bw,bw]),(21,E.cells [Y e.kind,Y e.num,aI ai i.1,Y i.2.1,cc i.2.2.1,aI aq i.2.2.2,bw])] [20,21]) (λj h=>?_) ?_))
  ·refine ad d (bu (ad d (aD h (λF h=>?_) λF h=>?_)))
   ·obtain⟨t,s,h⟩:=c9 h;exact aG d [ay (c e.index _ s)] (az h)
   refine ad d (aD h (λH h=>?_) λH h=>aA (az h));obtain⟨u,x,h⟩:=c9 h;exact aG d [ay (Lp G n e.read a change c x)] (az h)
  rintro⟨K,L,Q,R⟩ h;refine ao (ag d [aN aJ e.aZ] (bu (aQ d [.ch 21 6 22 116] (cT h (λi C=>bx [(1,V.fn a []),(4,V.ref 20 0),(5,V.ref 21 0),(30,aI aJ e.aZ),(31,Y (e.aZ.length:Int)),(32,Y i.2)] [(20,E.cells [Y 0,Y 0,bw,Y 0,cc [],bw,bw]),(21,E.cells [Y e.kind,Y e.num,aI ai K,Y L,cc Q,aI aq R,ms 22 C 7 aJ i.1]),(22,aK 116 C 7 aJ i.1)] [20,21,22]) 1 (aV) ?_))));rintro m ⟨W,f⟩ y h;refine ad d (da h (λg h=>?_) λg h=>?_)
  ·refine aA (bH ?_);obtain⟨k,o,h⟩:=c9 h;refine ag d [.z (.row (bn k)),.z (.nat 23),ar (gb aJ o (cP k))] ?_;obtain⟨l,p,A,q,h⟩:=h8 h;exact bK d bJ [ay (D k a change c p),.z (.int 2),.z (.rows (bk aJ [l])),ar (r5 l),cq (cU aJ q),b4 7 j7 W,b4 7 j7 [l]] (bs d ⟨(A,wr (f+1)),(y+1),h,aV⟩)
  cases h;exact bF (ag d [.z (.at 2),.z (.bT 22 [] [21])] aF)
theorem Yt(G:cK)(n:Nat)(s:Stmt)(a:FuncId)(change:aE->Option aE)(c: ∀(i:aE) r,change i=aa r->bm G a [V.agg (cF i)] (V.agg (cF r))){r:Stmt}(h:oS n s change=aa r):bm G 173 [V.agg (fU s),V.fn a []] (V.agg (fU r)):=by refine bE aT func173 rfl λw X k=>ag k [.z (.b (ab)),.z (.nat 20)] (ao (bU h λl d m e h=>?_));cases h;exact bK k bJ [ay (Lp G n s.write a change c d),ay (Yx G n s.value a change c e)] aF
theorem L'{s}{r}(h:wU n s=aa r):bm G 187 [V.agg (fU s)] (V.agg (fU r)):=bE aT func187 rfl λw X d=>ag d [.z (.b (ab)),.z (.nat 20)] (au h λe a h=>av h▸ag d [ay (Yt G n s 96 (λc=>k7 n c) (λc r h=>KL G n c h) a)] aF)
theorem DQ{a}{r}(h:px n a=aa r):b' G 184 [] [aI aq a] (ms 0 1 2 aq r) [aK 92 1 2 aq r]:=by refine cj aT func184 rfl λw X m b B=>ad b (ad b (ao (ag b [aN aq a] (bu (aQ b [.grow 3 20 92] (cT h (λd l=>bx [(3,ms 20 l 2 aq d.1),(6,aI aq a),(7,Y (a.length:Int)),(8,Y d.2)] [(20,aK 92 l 2 aq d.1)] [20]) 1 (aV) ?_))))));rintro c ⟨o,p⟩ q h;exact ad b (da h (λs h=>aA (bH (au h λx e h=>ag b [a8 aq e,.z (.nat 21)] (bU h λy i A k h=>aG b [ay (KL G n x i),.z (.int 0),cq (cU aq k),b4 2 f' o,b4 2 f' [y]] (bs b ⟨(A,wr (p+1)),(q+1),h,aV⟩))))) λs h=>av h▸bF (ad b (fa b 2 20)))
theorem Yu{nest}{r}(h:rl n nest=aa r):b' G 119 [] [aI aw nest] (ms 0 1 2 aw r) [aK 82 1 2 aw r]:=by refine cj aT func119 rfl λw X m a B=>ad a (ad a (ao (ag a [aN aw nest] (bu (aQ a [.grow 3 20 82] (cT h (λc l=>bx [(3,ms 20 l 2 aw c.1),(6,aI aw nest),(7,Y (nest.length:Int)),(8,Y c.2)] [(20,aK 82 l 2 aw c.1)] [20]) 1 (aV) ?_))))));rintro b ⟨o,p⟩ q h;exact ad a (da h (λs h=>aA (bH (au h λC d h=>ag a [a8 aw d,.z (.nat 21)] (cX h λx e y i A k h=>bK a bJ [a' [] [22] (DQ G e),a' [] [23] (DQ G i),.z (.at 4),.z (.bT 22 [15] []),.z (.at 4),.z (.bT 23 [18] []),.z (.int 0),cq (cU aw k),b4 2 fy o,b4 2 fy [(⟨x,y⟩:Loop)]] (bs a ⟨(A,wr (p+1)),(q+1),h,aV⟩))))) λs h=>av h▸bF (ad a (fa a 2 20)))
theorem Wn{nest}{r}(h:rl n nest=aa r):b' G 119 [] [aI aw nest] (ms 0 1 2 aw r) [E.aC cg 1 1 (r.map aw) []]:=by refine cj aT func119 rfl λw X q a C=>ad a (ad a (ao (ag a [aN aw nest] (bu (aQ a [.grow 3 20 82,.b1 20 cg 1] (cT h (λi p=>bx [(3,ms 20 p 2 aw i.1),(6,aI aw nest),(7,Y (nest.length:Int)),(8,Y i.2)] [(20,E.aC cg 1 p (i.1.map aw) [])] [20]) 1 (aV) ?_))))));rintro e ⟨c,s⟩ x h;exact ad a (da h (λA h=>aA (bH (au h λD k h=>ag a [a8 aw k,.z (.nat 21)] (cX h λd l B m o b h=>bK a bJ [a' [] [22] (DQ G l),a' [] [23] (DQ G m),.z (.lt 24 cg 1),.z (.rows (bk aw (c++[(⟨[],[]⟩:Loop)]))),ar (bd (U cg 1)),ar (lF aw (⟨[],[]⟩:Loop) b),b4 2 fy c,b4 2 fy [(⟨[],[]⟩:Loop)]] (cV a [.b1 22 cg 3,.cr 20 22 (aw (⟨[],[]⟩:Loop)) (bk aw (c++[(⟨d,[]⟩:Loop)])),.b1 23 cg 3,.cr 20 23 (aw (⟨d,[]⟩:Loop)) (o.map aw),.len 3 (o.map aw).length] (a9 (bd (d.map aq).length) (bd cg) (hc aw c (⟨[],[]⟩:Loop)) (np aw c (ph:=(⟨[],[]⟩:Loop)) (y:=(⟨d,[]⟩:Loop)) rfl) (bd (B.map aq).length) (bd cg) (hc aw c (⟨d,[]⟩:Loop)) (me aw (ph:=(⟨d,[]⟩:Loop)) b rfl) (lG aw (⟨[],[]⟩:Loop) b)) (bs a ⟨(o,wr (s+1)),(x+1),h,aV⟩)))))) λA h=>av h▸bF (ad a (aQ a [.bp 20 0 [2,3] []] b0)))
theorem Wk{p}{r}(h:rk n p=aa r):b' G 122 [] [V.agg (mg p)] (V.agg [ms 0 1 2 aw r.nest,ms 1 1 9 ax r.body]) [E.aC cg 1 1 (r.nest.map aw) [],aK 118 1 9 ax r.body]:=by refine cj aT func122 rfl λw X q a D=>ag a [.z (.b (ab)),.z (.nat 20)] (au h λm d h=>ag a [a' [] [21] (Wn G d),.z (.nat 22)] (ao (ag a [aN ax p.body] (bu (aQ a [.ch 22 1 23 118] (cT h (λe o=>bx [(2,V.ref 20 0),(3,V.ref 22 0),(11,aI ax p.body),(12,Y (p.body.length:Int)),(13,Y e.2)] [(20,E.cells [bw,bw]),(21,E.aC cg 1 1 (m.map aw) []),(22,E.cells [ms 21 1 2 aw m,ms 23 o 9 ax e.1]),(23,aK 118 o 9 ax e.1)] [20,21,22,23]) 1 (aV) ?_))))));rintro c ⟨s,x⟩ y h;exact ad a (da h (λA h=>aA (bH (au h λF i h=>ag a [a8 ax i,.z (.nat 24)] (bU h λB k C l h=>bK a bJ [ay (L' G k),.z (.int 0),cq (cU ax l),b4 9 gT s,b4 9 gT [B]] (bs a ⟨(C,wr (x+1)),(y+1),h,aV⟩))))) λA h=>av h▸bF (ad a (aQ a [.bp 21 0 [] [20,22]] (aQ a [.bp 23 1 [] [20,22]] b0))))
theorem UL{p}{r}(h:oA n p=aa r):b' G 57 [] [V.agg (cC p)] (V.agg [ms 0 1 2 a6 r.a7,ms 1 1 2 an r.parts]) [aK 121 1 2 a6 r.a7,E.aC cg 0 1 (r.parts.map an) []]:=by refine cj aT func57 rfl λw X K a t=>ag a [.z (.b (ab)),.z (.nat 20)] (ag a [.z (.nat 21)] (ao (ag a [aN a6 p.a7] (bu (aQ a [.ch 21 0 22 121] (cT h (λe l=>bx [(1,V.aU (e6 p)),(2,V.ref 20 0),(3,V.ref 21 0),(9,aI a6 p.a7),(10,Y (p.a7.length:Int)),(11,Y e.2)] [(20,E.cells [bw,bw]),(21,E.cells [ms 22 l 2 a6 e.1,bw]),(22,aK 121 l 2 a6 e.1)] [20,21,22]) 1 (aV) ?_))))));rintro s ⟨x,L⟩ A h;refine ad a (da h (λQ h=>aA (bH (au h λH B h=>ag a [a8 a6 B,.z (.nat 23)] (bU h λR C W D h=>bK a bJ [a' [] [24] (G.clone H.b9 C),.z (.at 5),.z (.bT 24 [21] []),.z (.int 0),cq (cU a6 D),b4 2 rp x,b4 2 rp [(⟨H.name,R⟩:cz)]] (bs a ⟨(W,wr (L+1)),(A+1),h,aV⟩))))) λQ h=>bF (ao (ag a [aN an p.parts] (bu (aQ a [.ch 21 1 23 86,.b1 23 cg 0] (cT h (λe l=>bx [(2,V.ref 20 0),(3,V.ref 21 0),(28,aI an p.parts),(29,Y (p.parts.length:Int)),(30,Y e.2)] [(20,E.cells [bw,bw]),(21,E.cells [ms 22 A 2 a6 x,ms 23 l 2 an e.1]),(22,aK 121 A 2 a6 x),(23,E.aC cg 0 l (e.1.map an) [])] [20,21,22,23]) 1 (aV) ?_))))));rintro m ⟨k,f⟩ F h;exact ad a (da h (λg h=>aA (bH (au h λj o h=>ag a [a8 an o,.z (.nat 24)] (bU h λc q i d h=>bK a bJ [a' [] [25,26] (Wk G q),.z (.lt 27 cg 0),.z (.rows (bk an (k++[(⟨[],[]⟩:Part)]))),ar (bd (U cg 0)),ar (lF an (⟨[],[]⟩:Part) d),b4 2 j6 k,b4 2 j6 [(⟨[],[]⟩:Part)]] (cV a [.cr 23 25 (an (⟨[],[]⟩:Part)) (bk an (k++[(⟨c.nest,[]⟩:Part)])),.b1 26 cg 2,.cr 23 26 (an (⟨c.nest,[]⟩:Part)) (i.map an),.eY 21 1 (i.map an).length] (a9 (bd (c.nest.map aw).length) (bd cg) (hc an k (⟨[],[]⟩:Part)) (np an k (ph:=(⟨[],[]⟩:Part)) (y:=(⟨c.nest,[]⟩:Part)) rfl) (bd (c.body.map ax).length) (bd cg) (hc an k (⟨c.nest,[]⟩:Part)) (me an (ph:=(⟨c.nest,[]⟩:Part)) d rfl) (lG an (⟨[],[]⟩:Part) d)) (bs a ⟨(i,wr (f+1)),(F+1),h,aV⟩)))))) λg h=>av h▸bF (ad a (aQ a [.bp 22 0 [] [20,21]] (aQ a [.bp 23 1 [] [20,21]] b0))))
theorem hD{p}{part}{r}(h:k6 n p part=aa r):bm G 124 [V.agg (cC p),Y part] (aW r):=bE aT func124 rfl λw X c=>ag c [.z (.b (ab))] (au h λd a h=>av h▸ag c [aN an p.parts,ay (ga G a)] aF)
theorem TC{p}{part}{loop}{r}(h:Ki n p part loop=aa r):bm G 168 [V.agg (cC p),Y part,Y loop] (aW r):=bE aT func168 rfl λw X d=>ag d [.z (.b (ab))] (bZ h (λk=>b2 [(6,aW k)]) (λm h=>au h λo c h=>bh h (λa h=>aG d ([ay (hD G c)]++aR 11 a) (az h)) λa h=>bU h λl e q i h=>aG d ([ay (hD G c)]++aX 5 a++[a8 an e]++aX 3 a++[aN aw l.nest,aY a,aY a,ay (ga G i),aY a]) (az h)) λs h=>av h▸aF)
theorem q'(G:cK)(n:Nat)(p:Prog)(a:Int)(i:Int){r:Prog×Bool}(h:jl n p a i=aa r)(x:r.2=ab):b' G 90 [] [V.agg (cC p),Y a,Y i] (V.bY [V.agg [ms 0 1 2 a6 r.1.a7,ms 1 1 2 an r.1.parts],V.cQ 1 1 2 (0+bt a) 0,aW ab]) [aK 121 1 2 a6 r.1.a7,E.aC cg 0 1 (r.1.parts.map an) []]:=by
 refine cj aT func90 rfl λw X y d C=>ag d [.z (.b (ab)),.z (.nat 20)] (ao (bZ h (λA=>bx [(1,Y a),(3,V.aU (e6 p)),(6,V.ref 20 0),(29,aW A)] [(20,E.cells [bw,bw])] [20]) (λD h=>au h λF e h=>bh h (λc h=>au h λH l h=>bh h (λk h=>bh h (λm h=>aG d ([ay (mC G e)]++aR 3 c++[ay (hD G l),aO c,aO c]++aR 3 k++aR 5 m++[aO k,aO m,aO k]) (az h)) λm h=>au h λK o h=>aG d ([ay (mC G e)]++aR 3 c++[ay (hD G l),aO c,aO c]++aR 3 k++aX 4 m++[ay (TC G o),aY m,aO k,aY m,aO k]) (az h)) λk h=>aG d ([ay (mC G e)]++aR 3 c++[ay (hD G l),aO c,aO c]++aX 5 k) (az h)) λc h=>aG d ([ay (mC G e)]++aX 5 c++d' 5) (az h)) λL h=>aD h (λB h=>?_) λB h=>?_))
 ·cases h;cases x
 exact aA (bU h λQ q R s h=>av h▸ag d [a' [] [21,22] (UL G q),.z (.nat 23)] (aQ d [.bp 21 0 [] [23]] (aQ d [.bp 22 1 [] [23]] (ao (bK d bJ [ar (bM an s)] b0)))))
theorem ra(G:cK)(n:Nat)(p:Prog)(a:Int)(e:Int){r:Prog×Bool}(h:jl n p a e=aa r)(q:r.2=al):bm G 90 [V.agg (cC p),Y a,Y e] (V.bY [V.agg [aI a6 [],aI an []],V.t T.gZ,aW al]):=by
 refine bE aT func90 rfl λw X l=>ag l [.z (.b (ab)),.z (.nat 20)] (ao (bZ h (λs=>bx [(1,Y a),(3,V.aU (e6 p)),(6,V.ref 20 0),(29,aW s)] [(20,E.cells [bw,bw])] [20]) (λB h=>?_) λC h=>?_))
 ·obtain⟨D,d,h⟩:=c9 h;refine bh h (λc h=>?_) λc h=>aG l ([ay (mC G d)]++aX 5 c++d' 5) (az h);obtain⟨F,k,h⟩:=c9 h;refine bh h (λi h=>?_) λi h=>aG l ([ay (mC G d)]++aR 3 c++[ay (hD G k),aO c,aO c]++aX 5 i) (az h);refine bh h (λm h=>aG l ([ay (mC G d)]++aR 3 c++[ay (hD G k),aO c,aO c]++aR 3 i++aR 5 m++[aO i,aO m,aO i]) (az h)) λm h=>?_;obtain⟨H,o,h⟩:=c9 h;exact aG l ([ay (mC G d)]++aR 3 c++[ay (hD G k),aO c,aO c]++aR 3 i++aX 4 m++[ay (TC G o),aY m,aO i,aY m,aO i]) (az h)
 refine aD h (λx h=>?_) λx h=>?_
 ·cases h;exact ad l aF
 obtain⟨K,y,L,A,h⟩:=h8 h;cases h;cases q
theorem Kq(G:cK)(n:Nat)(a:aE)(c:Int)(h:qS n a c=aa r):bm G 169 [V.agg (cF a),V.aU [T.int .i64 c]] (aW r):=bE aT func169 rfl λw X e=>ag e [.z (.b (ab))] (au h λi d h=>av h▸ag e [a8 ai d] aF)
theorem Lq{l}{v}{r}(h:EC n l v=aa r):bm G 91 [V.agg (iy l),Y v] (aW r):=bE aT func91 rfl λw X d=>ag d [.z (.b (ab)),.z (.b (ab))] (ad d (bZ h (λk=>b2 [(4,aW k)]) (λm h=>au h λo c h=>bh h (λe h=>au h λp i h=>aG d ([ay (yq G n l.bq 169 [T.int .i64 v] (λa=>qS n a v) (λa r h=>Kq G n a v h) c)]++aR 4 e++[ay (yq G n l.aL 169 [T.int .i64 v] (λa=>qS n a v) (λa r h=>Kq G n a v h) i),aO e]) (az h)) λe h=>aG d ([ay (yq G n l.bq 169 [T.int .i64 v] (λa=>qS n a v) (λa r h=>Kq G n a v h) c)]++aX 5 e) (az h)) λq h=>av h▸aF))
theorem UT{p}{x}{r}(h:DO n p x=aa r):bm G 239 [V.agg (cC p),V.agg (jJ x)] (V.agg (fU r)):=bE aT func239 rfl λw X d=>ag d [.z (.b (ab)),.z (.b (ab)),.z (.nat 20)] (ao (bU h λe a i c h=>av h▸bK d bJ [a8 an a,a8 ax c] aF))
theorem T6{p}{x}{r}(h:DA n p x=aa r):b' G 181 [] [V.agg (cC p),V.agg (jJ x)] (V.bY [ms 0 1 1 ai r.1,Y r.2]) [aK 3 1 1 ai r.1]:=by refine cj aT func181 rfl λw X A a Q=>ag a [.z (.b (ab)),.z (.b (ab))] (au h λs k h=>ag a [ay (UT G k),.z (.nat 20)] (ad a (ao (au h λe l h=>ag a [a' [] [21] (NO G n s.value l),aN eI e] (bu (aQ a [.grow 7 22 3] (cT h (λm y=>bx [(2,V.aU (e6 p)),(3,V.aU (cJ x)),(6,V.ref 20 0),(7,ms 22 y 1 ai m.1),(15,ms 21 1 2 eI e),(16,Y (e.length:Int)),(17,Y m.2)] [(20,E.cells (fU s)),(21,aK 113 1 2 eI e),(22,aK 3 y 1 ai m.1)] [20,21,22]) 1 (aV) ?_)))))));rintro i ⟨B,C⟩ D h;exact ad a (da h (λF h=>aA (bH (au h λR c h=>ag a [ar (bM eI c),bD eI c,.z (.nat 23)] (bU h λH o K q h=>aG a [ay (yX G o),.z (.int 0),cq (cU ai q),dE B,dE [H]] (bs a ⟨(K,wr (C+1)),(D+1),h,aV⟩))))) λF h=>bF (au h λL d h=>av h▸ag a [ay (yX G d)] (fa a 4 22)))
theorem oT{p}{r}(h:pX n p=aa r):bm G 115 [V.agg (cC p)] (V.bY [Ev eC r.1,aW r.2]):=by unfold pX at h;refine Sr aT func115 rfl rfl rfl rfl rfl (Ue _ _ _) rfl ?_;intro w X a;refine ag a [.z (.b (ab))] (au h λc o h=>ag a [a' [] [20] (St G o)] (ao (ad a (aD h (λA h=>av h▸ad a aF) λA h=>aA (ag a [.z (.nat 21)] (ao (ag a [aN cJ c.1] (bu (aQ a [.ch 21 3 22 67] (aQ a [.ch 21 4 23 3] (Cy (γ:=Nat×Nat) h (λd l=>bx [(1,V.aU (e6 p)),(6,V.ref 21 0),(22,ms 20 1 3 cJ c.1),(23,Y (c.1.length:Int)),(24,Y d.2.2)] [(20,aK 107 1 3 cJ c.1),(21,E.cells [aI a6 p.a7,aI an p.parts,ms 20 1 3 cJ c.1,ms 22 l.1 1 (bj ai) d.1,ms 23 l.2 1 ai d.2.1]),(22,aK 67 l.1 1 (bj ai) d.1),(23,aK 3 l.2 1 ai d.2.1)] [20,21,22,23]) (1,1) (aV) ?_)))))))))));rintro m ⟨B,C,D⟩ ⟨F,H⟩ h;exact ad a (da h (λK h=>aA (bH (au h λL e h=>ag a [ar (bM cJ e),bD cJ e,.z (.nat 24)] (au h λy q h=>ag a [a' [] [25] (T6 G q)] (bU h λs i x k h=>bK a bJ [.z (.at 15),.z (.bT 25 [9,40] []),.z (.int 0),cq (cU (bj ai) i),.z (.int 0),ar (kT (r:=(bj ai)) 1 (λ_=>rfl) B),ar (kT (r:=(bj ai)) 1 (λ_=>rfl) [y.1]),cq (cU ai k),dE C,dE [y.2]] (bs a ⟨(s,x,wr (D+1)),((F+1),(H+1)),h,aV⟩)))))) λK h=>av h▸bF (ad a (aQ a [.bT 20 [22] [21],.bT 22 [] [21],.bT 23 [] [21],.sM 21 [2,6]] aF)))
theorem Lm(G:cK)(n:Nat)(b:List Int)(c:List Int)(h:EP n b c=aa r):bm G 238 [aI ai b,aI ai c] (aW r):=bE aT func238 rfl λw X a=>ad a (ao (ag a [aN ai b,aN ai c] (aD h (λk h=>av h▸ad a aF) λk h=>aA (ao (ag a [aN ai b] (bu (cv h (λl=>b2 [(0,aI ai b),(1,aI ai c),(12,Y (b.length:Int)),(13,Y l)]) aV λd p h=>ad a (da h (λm h=>aA (bH (ad a (ao (bU h λq e s i h=>bK a bJ [a8 ai e,a8 ai i] (aD h (λo h=>av h▸ad a aF) λo h=>aA (bs a (az h)))))))) λm h=>av h▸bF (ad a aF)))))))))
theorem Wh{s}{v}{r}(h:Fi n s v=aa r):bm G 245 [aI ai s,Y v] (Y r):=bE aT func245 rfl λw X a=>ad a (ao (ag a [aN ai s] (bu (cv h (λd=>b2 [(0,aI ai s),(1,Y v),(7,Y (s.length:Int)),(8,Y d)]) aV λb k h=>ad a (da h (λe h=>aA (bH (ad a (au h λl c h=>ag a [a8 ai c] (aD h (λi h=>av h▸ad a aF) λi h=>aA (bs a (az h))))))) λe h=>av h▸bF (ad a aF))))))
theorem Kn{s}{v}{r}(h:vV n s v=aa r):bm G 189 [aI ai s,Y v] (aW r):=bE aT func189 rfl λw X b=>ad b (au h λc a h=>av h▸ag b [ay (Wh G a)] aF)
theorem UD{t}{a}{b}{r}(h:DD n t a b=aa r):bm G 182 [V.aU (eC t),Y a,Y b] (Y r):=bE aT func182 rfl λw X c=>ad c (ad c (bZ h (λd=>b2 [(0,V.aU (eC t)),(1,Y a),(2,Y b),(7,Y d)]) (λF h=>ao (cX h λH k K l L m h=>bK c bJ [a8 (bj ai) k,a8 ai l,ay (Kn G m)] (aD h (λs h=>bs c (az h)) λs h=>aA (az h)))) λQ h=>bZ h (λd=>b2 [(0,V.aU (eC t)),(1,Y a),(2,Y b),(7,Y d)]) (λR h=>ao (cX h λW o f p g q h=>bK c bJ [a8 (bj ai) o,a8 ai p,ay (Kn G q)] (aD h (λx h=>bs c (az h)) λx h=>aA (az h)))) λy h=>bZ h (λd=>b2 [(7,Y d)]) (λz h=>ao (bU h λA e B i h=>bK c bJ [a8 ai e,a8 ai i] (aD h (λC h=>bs c (az h)) λC h=>aA (az h)))) λD h=>av h▸ad c aF))
theorem Ks{t}{r}(h:vZ n t=aa r):b' G 116 [] [V.aU (eC t)] (ms 0 1 3 di r) [aK 109 1 3 di r]:=by
 refine cj aT func116 rfl λw X B a L=>ad a (ad a (ao (ag a [aN cJ t.list] (bu (aQ a [.grow 3 20 109] (cT h (λb c=>bx [(0,V.aU (eC t)),(3,ms 20 c 3 di b.1),(11,Y (t.list.length:Int)),(12,Y b.2)] [(20,aK 109 c 3 di b.1)] [20]) 1 (aV) ?_))))));rintro k ⟨Q,d⟩ C h;refine ad a (da h (λD h=>?_) λD h=>?_)
 ·refine aA (bH (ad a (ad a (bu (cT h (λb c=>bx [(0,V.aU (eC t)),(3,ms 20 c 3 di b.1),(4,Y d),(5,Y b.2),(11,Y (t.list.length:Int)),(12,Y d)] [(20,aK 109 c 3 di b.1)] [20]) C (aV) ?_)))));rintro l ⟨m,o⟩ p h;refine ao (ag a [aN cJ t.list] (aD h (λF h=>aA ?_) λF h=>bF (bs a ⟨(m,wr (d+1)),p,h,aV⟩)));obtain⟨H,q,h⟩:=nu h;refine mV (γ:=Nat) (j:=H) (r:=r) (λb c=>bx [(0,V.aU (eC t)),(3,ms 20 c 3 di b),(4,Y d),(5,Y o),(11,Y (t.list.length:Int)),(12,Y d)] [(20,aK 109 c 3 di b)] [20]) (bu (au h λs e h=>ag a [ay (UD G e)] (ad a (aD h (λK h=>au h λx i h=>aG a [.z (.int 0),cq (cU di i),b4 3 Bq m,b4 3 Bq [(⟨d,o,s⟩:fY)]] ⟨x,(p+1),h,aV⟩) λK h=>aA ⟨m,p,h,aV⟩)))) ?_;rintro y A h;subst q;exact bs a ⟨(y,wr (o+1)),A,h,aV⟩
 exact av h▸bF (ad a (fa a 2 20))
theorem TE{x}{r}(h:DG n x=aa r):bm G 287 [Y x] (aW r):=bE aT func287 rfl λw X a=>av h▸ad a (ad a aF)
theorem T4{x}{y}{r}(h:DB n x y=aa r):bm G 242 [Y x,Y y] (Y r):=bE aT func242 rfl λw X a=>ad a (au h λm b h=>ag a [ay (TE G b)] (au h λo c h=>ag a [ay (TE G c)] (ao (ad a (aD h (λd h=>ao (ad a (aD h (λe h=>av h▸ad a aF) λe h=>av h▸aA (ad a aF)))) λd h=>aA (ao (ad a (aD h (λi h=>av h▸ad a aF) λi h=>aA (ao (ad a (aD h (λk h=>av h▸ad a aF) λk h=>aA (ao (ad a (aD h (λl h=>av h▸ad a aF) λl h=>av h▸aA (ad a aF)))))))))))))))
theorem Vq{b}{c}{r}(h:KH n b c=aa r):bm G 183 [aI ai b,aI ai c] (Y r):=bE aT func183 rfl λw X a=>ad a (ao (ag a [aN ai b] (bu (cv h (λl=>b2 [(0,aI ai b),(1,aI ai c),(9,aI ai b),(10,Y (b.length:Int)),(11,Y l)]) aV λd s h=>ad a (da h (λm h=>aA (bH (au h λx e h=>ag a [a8 ai e] (ao (ag a [aN ai c] (aD h (λo h=>av h▸ad a aF) λo h=>aA (au h λy i h=>ag a [a8 ai i] (au h λz k h=>ag a [ay (T4 G k)] (ad a (aD h (λp h=>av h▸ad a aF) λp h=>aA (bs a (az h)))))))))))) λm h=>bF (ao (ag a [aN ai b,aN ai c] (aD h (λq h=>av h▸ad a aF) λq h=>av h▸aA (ad a aF)))))))))
theorem ac5{r:List (List Int)}(h:mQ x=aa r):(bk (bj ai) x).length=(bk (bj ai) r).length:=by
 unfold mQ at h;split at h
 ·cases h;simp[fD]
 cases h
theorem UU(G:cK)(n:Nat)(a:Int)(h:Kz n a=aa r):bm G 232 [Y a] (aW r):=bE aT func232 rfl λw X b=>av h▸ad b (ad b aF)
theorem VU{d}{r}(h:Ei n d=aa r):bm G 172 [aI ai d] (Y r):=bE aT func172 rfl λw X c=>ad c (au h λe a h=>av h▸ag c [ay (TF G n d 232 (λb=>Kz n b) (λb r h=>UU G n b h) a)] aF)
def iw:List dw:=[⟨67,1,[(0,1)]⟩,⟨3,1,[]⟩]
theorem ac6{r:List (List Int)}(h:mQ x=aa r): ∀l∈r,l.length<=1000000000:=by
 unfold mQ at h;split at h
 ·rename_i b;exact av h▸λl a=>b.2 l (by unfold fD at a;exact List.mem_mergeSort.1 a)
 cases h
theorem TU{t}{part}{r}(h:Ds n t part=aa r):b' G 231 [] [V.aU (eC t),Y part] (ms 0 1 1 (bj ai) r) [E.aC iw 0 1 (bk (bj ai) r) []]:=by
 refine cj aT func231 rfl λw X P a bV=>ad a (ad a (ao (au h λc K h=>ag a [a' [] [20] (Ks G K),aN di c] (bu (aQ a [.grow 5 21 67,.b1 21 iw 0] (cT h (λb m=>bx [(0,V.aU (eC t)),(1,Y part),(5,ms 21 m 1 (bj ai) b.1),(13,ms 20 1 3 di c),(14,Y (c.length:Int)),(15,Y b.2)] [(20,aK 109 1 3 di c),(21,E.aC iw 0 m (bk (bj ai) b.1) [])] [20,21]) 1 (aV) ?_))))));rintro F ⟨l,H⟩ o h;refine ad a (da h (λT h=>?_) λT h=>?_)
 ·refine aA ?_;obtain⟨Du,L,h⟩:=nu h;refine mV (γ:=Nat) (j:=Du) (r:=r) (λb m=>bx [(0,V.aU (eC t)),(1,Y part),(5,ms 21 m 1 (bj ai) b.1),(13,ms 20 1 3 di c),(14,Y (c.length:Int)),(15,Y H)] [(20,aK 109 1 3 di c),(21,E.aC iw 0 m (bk (bj ai) b.1) []),(22,E.cells [Y b.2.1,Y b.2.2.1,Y b.2.2.2.1]),(23,E.cells [Y b.2.2.2.2.1,Y b.2.2.2.2.2.1,aI ai b.2.2.2.2.2.2.1]),(24,E.cells [Y b.2.2.2.2.2.2.2.1,Y b.2.2.2.2.2.2.2.2.1,aI ai b.2.2.2.2.2.2.2.2.2])] [20,21,22,23,24]) ?_ ?_
  ·refine bu (au h λd s h=>ag a [ar (bM di s),bD di s,.z (.nat 22)] (ao (bU h λp Q k R h=>bK a bJ [a8 cJ Q,a8 cJ R,.z (.nat 23),.z (.nat 24)] (ao (bZ h (λb=>bx [(0,V.aU (eC t)),(1,Y part),(5,ms 21 o 1 (bj ai) l),(8,V.ref 23 0),(9,V.ref 24 0),(13,ms 20 1 3 di c),(14,Y (c.length:Int)),(15,Y H),(44,aW b)] [(20,aK 109 1 3 di c),(21,E.aC iw 0 o (bk (bj ai) l) []),(22,E.cells [Y d.eQ,Y d.eR,Y d.kinds]),(23,E.cells (jJ p)),(24,E.cells (jJ k))] [20,21,22,23,24]) (λSh h=>bh h (λW h=>aG a (aR 5 W) (az h)) λW h=>aG a (aX 5 W) (az h)) λw6 h=>aD h (λe5 h=>bF ⟨(l,d.eQ,d.eR,d.kinds,p.part,p.stmt,p.db,k.part,k.stmt,k.db),o,h,aV⟩) λe5 h=>aA (ad a (ao (ag a [aN ai k.db] (bu (aQ a [.grow 10 25 3] (cT h (λb m=>bx [(0,V.aU (eC t)),(1,Y part),(5,ms 21 o 1 (bj ai) l),(8,V.ref 23 0),(9,V.ref 24 0),(10,ms 25 m 1 ai b.1),(13,ms 20 1 3 di c),(14,Y (c.length:Int)),(15,Y H),(47,Y (k.db.length:Int)),(48,Y b.2)] [(20,aK 109 1 3 di c),(21,E.aC iw 0 o (bk (bj ai) l) []),(22,E.cells [Y d.eQ,Y d.eR,Y d.kinds]),(23,E.cells (jJ p)),(24,E.cells (jJ k)),(25,aK 3 m 1 ai b.1)] [20,21,22,23,24,25]) 1 (aV) ?_)))))))))));rintro x ⟨y,f⟩ g h;exact ad a (da h (λh' h=>aA (bH (ad a (cX h λu A v B I C h=>bK a bJ [a8 ai A,a8 ai B,.z (.int 0),cq (cU ai C),dE y,dE [wr (u-v)]] (bs a ⟨(I,wr (f+1)),(g+1),h,aV⟩))))) λh' h=>bF (au h λq e h=>aG a [.z (.lt 26 iw 0),.z (.rows (bk (bj ai) (l++[([]:List Int)]))),ar (bd (U iw 0)),ar (lF (bj ai) ([]:List Int) e),ar (kT (r:=(bj ai)) 1 (λ_=>rfl) l),ar (kT (r:=(bj ai)) 1 (λ_=>rfl) [([]:List Int)])] ⟨(q,d.eQ,d.eR,d.kinds,p.part,p.stmt,p.db,k.part,k.stmt,k.db),(o+1),h,S.le.trans (yr a [.b1 25 iw 1,.cr 21 25 (bj ai ([]:List Int)) (bk (bj ai) q),.len 5 (bk (bj ai) q).length] (a5 (bd (y.map ai).length) (bd iw) (hc (bj ai) l ([]:List Int)) (me (bj ai) (ph:=([]:List Int)) e rfl) (lG (bj ai) ([]:List Int) e))) (aV)⟩))
  rintro⟨M,qa,uj,uk,um,uo,uq,EU,z6,EV⟩ N h;subst L;exact bs a ⟨(M,wr (H+1)),N,h,aV⟩
 exact bF (au h λD i h=>av h▸ag a [a' [21] [] (G.D' iw 0 1 rfl rfl l o i),.z (.len 5 (bk (bj ai) D).length),ar (ac5 i)] (ag a [a' [21] [] (G.Q4 iw 0 1 rfl rfl D o (ac6 i))] (aQ a [.bp 21 0 [4] []] b0)))
theorem U'{p}{part}{r}(h:D0 n p part=aa r):b' G 171 [] [V.agg (cC p),Y part] (ms 0 1 1 (bj ai) r) [E.aC iw 0 1 (bk (bj ai) r) []]:=cj aT func171 rfl λw X s a A=>ag a [.z (.b (ab))] (ao (au h λi c h=>bh h (λk h=>aG a [.z (.v (V.bY [V.t T.gZ,aW i.2])),ar (zT k (oT G c))] (ao (bZ h (λl=>b2 [(1,Y part),(5,V.t T.gZ),(19,aW l)]) (λB h=>bh h (λd h=>au h λC m h=>aG a (aR 3 d++[ay (hD G m),aO d,aO d]) (az h)) λd h=>aG a (aX 5 d) (az h)) λD h=>aD h (λx h=>av h▸ad a (aQ a [.grow 4 0 67,.b1 0 iw 0] b0)) λx h=>aA (ao (ix h))))) λk h=>aG a [.z (.v (V.bY [V.aU (eC (i.1.getD default)),aW i.2])),ar (zU k (oT G c))] (ao (bZ h (λl=>b2 [(1,Y part),(5,V.aU (eC (i.1.getD default))),(19,aW l)]) (λF h=>bh h (λe h=>au h λH o h=>aG a (aR 3 e++[ay (hD G o),aO e,aO e]) (az h)) λe h=>aG a (aX 5 e) (az h)) λK h=>aD h (λy h=>av h▸ad a (aQ a [.grow 4 0 67,.b1 0 iw 0] b0)) λy h=>aA (au h λL q h=>av h▸ag a [a' [] [21] (TU G q)] (aQ a [.bp 21 0 [4] []] b0))))))
theorem LL(G:cK)(n:Nat)(p:Prog)(m:Int)(C:FuncId)(o:List T)(f:List Int->Option (List Int))(R: ∀(D:List Int) (g:Nat) r,f D=aa r->b' G C [aK 3 g 1 ai D] [ms 0 g 1 ai D,V.aU o] (V.bY []) [aK 3 g 1 ai r])(h:xV n p m f=aa r):bm G 92 [V.agg (cC p),Y m,V.fn C [V.aU o]] (aW r):=by
 refine bE aT func92 rfl λw X c=>ag c [.z (.b (ab))] (ao (au h λK F h=>ag c [a' [] [20] (U' G F),aN (bj ai) K] (bu (cv h (λH=>bx [(2,V.fn C [V.aU o]),(12,ms 20 1 1 (bj ai) H.1),(13,Y (K.length:Int)),(14,Y H.2)] [(20,E.aC iw 0 1 (bk (bj ai) H.1) [])] [20]) aV ?_))));rintro A ⟨L,i⟩ h;refine ad c (da h (λW h=>?_) λW h=>?_)
 ·refine aA (bH (ao (au h λd x h=>aG c [.z (.cZ 20 21 (0+bt i) 0 (bj ai d)),.z (.row (bj ai d)),ar (bP (bj ai) x),ar (bM (bj ai) x),ar (bP (bj ai) x)] (aQ c [.ec 21] (ao (au h λe j h=>au h λu q h=>aG c [a' [21] [] (R d 1 _ j),.z (.len 8 (bk ai e).length),ar (jm ai q)] (ao (au h λk t h=>aG c [.z (.b (ab)),ay (VU G t)] (ao (au h λa l h=>bh h (λs h=>?_) λs h=>?_))))))))))
  ·refine aG c (aR 6 s) (dB (b:=al) (λB=>?_) λB=>aA (cV c [.b1 21 iw 1,.cr 20 21 (bj ai d) (bk (bj ai) a),.len 12 (bk (bj ai) a).length] (a5 (jm ai q) (bd iw) (bP (bj ai) x) (ha (bj ai) l rfl) (cS (bj ai) l)) (bs c (az h))));cases B
  refine au h λy Q h=>aG c (aX 3 s++[ar (bM ai Q),aY s,bD ai Q,aY s,aY s]) (aD h (λB h=>?_) λB h=>aA (cV c [.b1 21 iw 1,.cr 20 21 (bj ai d) (bk (bj ai) a),.len 12 (bk (bj ai) a).length] (a5 (jm ai q) (bd iw) (bP (bj ai) x) (ha (bj ai) l rfl) (cS (bj ai) l)) (bs c (az h))));cases h;exact ad c aF
 cases h;exact bF (ad c aF)
theorem UO(G:cK)(n:Nat)(d:List Int)(k:Nat)(a:Int){r:(List Int)}(h:vN n d a=aa r):b' G 93 [aK 3 k 1 ai d] [ms 0 k 1 ai d,V.aU [T.int .i64 a]] (V.bY []) [aK 3 k 1 ai r]:=cj aT func93 rfl λw X m o s=>cX h λx c y b p e h=>bU h λA i q l h=>av h▸bK o bJ [ar (bM ai c),bD ai c,ar (bM ai b),bD ai b,ar (bM ai b),bD ai b,.z (.rows (p.map ai)),ar (str ai e),ar (IV ai i (cS ai e)),bD ai i,.z (.rows (q.map ai)),ar (str ai l)] qL
theorem Sz(G:cK)(n:Nat)(b:List Loop)(i:Int)(l:Loop)(D:aB b i=aa l)(g:Nat)(F:FuncId)(s:List T)(f:aE->Option aE)(j: ∀(t:aE) r,f t=aa r->bm G F [V.agg (cF t),V.aU s] (V.agg (cF r))){a:Loop}{o:List Loop}(h:tf n l f=aa a)(Q:cd b i a=aa o):
  b' G 104 [E.aC cg 1 g (b.map aw) []] [V.cQ 0 g 2 (0+bt i) 0,V.fn F [V.aU s]] (V.bY []) [E.aC cg 1 g (bk aw o) []]:=by
 refine cj aT func104 rfl λw X I c P=>ao (bK c bJ [.z (.cZ 0 21 (0+bt i) 0 (aw l)),.z (.cZ 0 22 (0+bt i) 1 (aw l)),bD aw D,bD aw D,.z (.lt 23 cg 4),.z (.nat 2),ar (bP aw D),ar (bP aw D),ar (bd 2)] (aQ c [.ec 21,.ec 22] (bu (cv h (λp=>bx [(1,V.fn F [V.aU s]),(16,V.bf 23 1 1 0 2),(17,Y 2),(18,Y p.2)] [(0,E.aC cg 1 g (b.map aw) [((0+bt i),1,ms 22 1 2 aq l.aL),((0+bt i),0,ms 21 1 2 aq l.bq)]),(23,E.aC cg 4 1 (dh 2 [T.bG []]) [(0,0,ms 21 1 2 aq l.bq),(1,0,ms 22 1 2 aq l.aL)]),(21,aK 92 1 2 aq p.1.bq),(22,aK 92 1 2 aq p.1.aL)] [0,21,22,23]) aV ?_))));rintro L ⟨x,q⟩ h;refine au h λS H h=>au h λU K h=>ad c (da h (λM h=>?_) λM h=>?_)
 ·refine aA (bH (ao (bh h (λu h=>?_) λu h=>?_)))
  ·refine bh h (λv h=>ix h) λv h=>?_;have e:=e3 v;subst e;refine aG c [.z (.int 1),.z (.row [T.bG []]),ar (And.intro (by decide) (by decide):(0:Int)<=1/\(1:Int)<((2:Nat):Int)),ar (bd (aa [T.bG []]))] (cV c [.len 5 (x.aL.map aq).length] (aP (jm aq K)) (ag c [aN aq x.aL] (bu (cv h (λp=>bx [(1,V.fn F [V.aU s]),(16,V.bf 23 1 1 0 2),(17,Y 2),(18,Y 1),(5,ms 22 1 2 aq p.1),(22,ms 22 1 2 aq p.1),(23,Y (x.aL.length:Int)),(24,Y p.2)] [(0,E.aC cg 1 g (b.map aw) [((0+bt i),1,ms 22 1 2 aq l.aL),((0+bt i),0,ms 21 1 2 aq l.bq)]),(23,E.aC cg 4 1 (dh 2 [T.bG []]) [(0,0,ms 21 1 2 aq l.bq),(1,0,ms 22 1 2 aq l.aL)]),(21,aK 92 1 2 aq x.bq),(22,aK 92 1 2 aq p.1)] [0,21,22,23]) aV ?_))));rintro A ⟨y,k⟩ h;exact ad c (da h (λR h=>aA (bH (au h λW d h=>ag c [ar (bM aq d),bD aq d,.z (.nat 24)] (bU h λN B C m h=>aG c [ay (j W _ B),ar (bM aq d),bD aq d,.z (.rows (C.map aq)),.z (.len 5 (C.map aq).length),.z (.len 22 (C.map aq).length),ar (str aq m),ar (cS aq m),ar (cS aq m)] (bs c (az h)))))) λR h=>bF (bs c (az h)))
  have e:=e3 u;subst e;refine aG c [.z (.int 0),.z (.row [T.bG []]),ar (And.intro (by decide) (by decide):(0:Int)<=0/\(0:Int)<((2:Nat):Int)),ar (bd (aa [T.bG []]))] (cV c [.len 5 (x.bq.map aq).length] (aP (jm aq H)) (ag c [aN aq x.bq] (bu (cv h (λp=>bx [(1,V.fn F [V.aU s]),(16,V.bf 23 1 1 0 2),(17,Y 2),(18,Y 0),(5,ms 21 1 2 aq p.1),(22,ms 21 1 2 aq p.1),(23,Y (x.bq.length:Int)),(24,Y p.2)] [(0,E.aC cg 1 g (b.map aw) [((0+bt i),1,ms 22 1 2 aq l.aL),((0+bt i),0,ms 21 1 2 aq l.bq)]),(23,E.aC cg 4 1 (dh 2 [T.bG []]) [(0,0,ms 21 1 2 aq l.bq),(1,0,ms 22 1 2 aq l.aL)]),(21,aK 92 1 2 aq p.1),(22,aK 92 1 2 aq x.aL)] [0,21,22,23]) aV ?_))));rintro A ⟨y,k⟩ h;exact ad c (da h (λR h=>aA (bH (au h λW d h=>ag c [ar (bM aq d),bD aq d,.z (.nat 24)] (bU h λN B C m h=>aG c [ay (j W _ B),ar (bM aq d),bD aq d,.z (.rows (C.map aq)),.z (.len 5 (C.map aq).length),.z (.len 22 (C.map aq).length),ar (str aq m),ar (cS aq m),ar (cS aq m)] (bs c (az h)))))) λR h=>bF (bs c (az h)))
 obtain rfl:=av h;exact cV c [.b1 21 cg 3,.b1 22 cg 3,.cr 0 22 (aw l) (bk aw (b.set i.toNat (⟨l.bq,x.aL⟩:Loop))),.cr 0 21 (aw (⟨l.bq,x.aL⟩:Loop)) (bk aw o)] (fI (jm aq K) (bd cg) (bP aw D) (ha aw (w9 Q (⟨l.bq,x.aL⟩:Loop)) rfl) (jm aq H) (bd cg) (bP aw (uM Q (⟨l.bq,x.aL⟩:Loop))) (ha aw (w8 Q (⟨l.bq,x.aL⟩:Loop)) rfl)) (bF qL)
theorem Sy(G:cK)(n:Nat)(a:List Loop)(i:Int)(l:Loop)(D:aB a i=aa l)(g:Nat)(F:FuncId)(p:List T)(s:List T)(f:aE->Option aE)(j: ∀(t:aE) r,f t=aa r->bm G F [V.agg (cF t),V.aU p,V.aU s] (V.agg (cF r))){u:Loop}{d:List Loop}(h:tf n l f=aa u)(Q:cd a i u=aa d):
  b' G 104 [E.aC cg 1 g (a.map aw) []] [V.cQ 0 g 2 (0+bt i) 0,V.fn F [V.aU p,V.aU s]] (V.bY []) [E.aC cg 1 g (bk aw d) []]:=by
 refine cj aT func104 rfl λw X M b S=>ao (bK b bJ [.z (.cZ 0 21 (0+bt i) 0 (aw l)),.z (.cZ 0 22 (0+bt i) 1 (aw l)),bD aw D,bD aw D,.z (.lt 23 cg 4),.z (.nat 2),ar (bP aw D),ar (bP aw D),ar (bd 2)] (aQ b [.ec 21,.ec 22] (bu (cv h (λo=>bx [(1,V.fn F [V.aU p,V.aU s]),(16,V.bf 23 1 1 0 2),(17,Y 2),(18,Y o.2)] [(0,E.aC cg 1 g (a.map aw) [((0+bt i),1,ms 22 1 2 aq l.aL),((0+bt i),0,ms 21 1 2 aq l.bq)]),(23,E.aC cg 4 1 (dh 2 [T.bG []]) [(0,0,ms 21 1 2 aq l.bq),(1,0,ms 22 1 2 aq l.aL)]),(21,aK 92 1 2 aq o.1.bq),(22,aK 92 1 2 aq o.1.aL)] [0,21,22,23]) aV ?_))));rintro L ⟨x,q⟩ h;refine au h λU H h=>au h λs2 K h=>ad b (da h (λN h=>?_) λN h=>?_)
 ·refine aA (bH (ao (bh h (λv h=>?_) λv h=>?_)))
  ·refine bh h (λI h=>ix h) λI h=>?_;have e:=e3 I;subst e;refine aG b [.z (.int 1),.z (.row [T.bG []]),ar (And.intro (by decide) (by decide):(0:Int)<=1/\(1:Int)<((2:Nat):Int)),ar (bd (aa [T.bG []]))] (cV b [.len 5 (x.aL.map aq).length] (aP (jm aq K)) (ag b [aN aq x.aL] (bu (cv h (λo=>bx [(1,V.fn F [V.aU p,V.aU s]),(16,V.bf 23 1 1 0 2),(17,Y 2),(18,Y 1),(5,ms 22 1 2 aq o.1),(22,ms 22 1 2 aq o.1),(23,Y (x.aL.length:Int)),(24,Y o.2)] [(0,E.aC cg 1 g (a.map aw) [((0+bt i),1,ms 22 1 2 aq l.aL),((0+bt i),0,ms 21 1 2 aq l.bq)]),(23,E.aC cg 4 1 (dh 2 [T.bG []]) [(0,0,ms 21 1 2 aq l.bq),(1,0,ms 22 1 2 aq l.aL)]),(21,aK 92 1 2 aq x.bq),(22,aK 92 1 2 aq o.1)] [0,21,22,23]) aV ?_))));rintro A ⟨y,k⟩ h;exact ad b (da h (λR h=>aA (bH (au h λW c h=>ag b [ar (bM aq c),bD aq c,.z (.nat 24)] (bU h λP B C m h=>aG b [ay (j W _ B),ar (bM aq c),bD aq c,.z (.rows (C.map aq)),.z (.len 5 (C.map aq).length),.z (.len 22 (C.map aq).length),ar (str aq m),ar (cS aq m),ar (cS aq m)] (bs b (az h)))))) λR h=>bF (bs b (az h)))
  have e:=e3 v;subst e;refine aG b [.z (.int 0),.z (.row [T.bG []]),ar (And.intro (by decide) (by decide):(0:Int)<=0/\(0:Int)<((2:Nat):Int)),ar (bd (aa [T.bG []]))] (cV b [.len 5 (x.bq.map aq).length] (aP (jm aq H)) (ag b [aN aq x.bq] (bu (cv h (λo=>bx [(1,V.fn F [V.aU p,V.aU s]),(16,V.bf 23 1 1 0 2),(17,Y 2),(18,Y 0),(5,ms 21 1 2 aq o.1),(22,ms 21 1 2 aq o.1),(23,Y (x.bq.length:Int)),(24,Y o.2)] [(0,E.aC cg 1 g (a.map aw) [((0+bt i),1,ms 22 1 2 aq l.aL),((0+bt i),0,ms 21 1 2 aq l.bq)]),(23,E.aC cg 4 1 (dh 2 [T.bG []]) [(0,0,ms 21 1 2 aq l.bq),(1,0,ms 22 1 2 aq l.aL)]),(21,aK 92 1 2 aq o.1),(22,aK 92 1 2 aq x.aL)] [0,21,22,23]) aV ?_))));rintro A ⟨y,k⟩ h;exact ad b (da h (λR h=>aA (bH (au h λW c h=>ag b [ar (bM aq c),bD aq c,.z (.nat 24)] (bU h λP B C m h=>aG b [ay (j W _ B),ar (bM aq c),bD aq c,.z (.rows (C.map aq)),.z (.len 5 (C.map aq).length),.z (.len 22 (C.map aq).length),ar (str aq m),ar (cS aq m),ar (cS aq m)] (bs b (az h)))))) λR h=>bF (bs b (az h)))
 obtain rfl:=av h;exact cV b [.b1 21 cg 3,.b1 22 cg 3,.cr 0 22 (aw l) (bk aw (a.set i.toNat (⟨l.bq,x.aL⟩:Loop))),.cr 0 21 (aw (⟨l.bq,x.aL⟩:Loop)) (bk aw d)] (fI (jm aq K) (bd cg) (bP aw D) (ha aw (w9 Q (⟨l.bq,x.aL⟩:Loop)) rfl) (jm aq H) (bd cg) (bP aw (uM Q (⟨l.bq,x.aL⟩:Loop))) (ha aw (w8 Q (⟨l.bq,x.aL⟩:Loop)) rfl)) (bF qL)
theorem TQ(G:cK)(n:Nat)(a:cx)(d:FuncId)(c:List T)(change:aE->Option aE)(e: ∀(q:aE) r,change q=aa r->bm G d [V.agg (cF q),V.aU c] (V.agg (cF r))){r:cx}(h:q8 n a change=aa r):bm G 233 [V.agg (d8 a),V.fn d [V.aU c]] (V.agg (d8 r)):=by refine bE aT func233 rfl λw X i=>ag i [.z (.b (ab)),.z (.nat 20)] (ag i [.z (.nat 21)] (ao (ag i [aN aq a.ba] (bu (aQ i [.ch 21 1 22 92] (cT h (λl s=>bx [(1,V.fn d [V.aU c]),(4,V.ref 20 0),(5,V.ref 21 0),(12,aI aq a.ba),(13,Y (a.ba.length:Int)),(14,Y l.2)] [(20,E.cells [cc [],bw]),(21,E.cells [cc a.array,ms 22 s 2 aq l.1]),(22,aK 92 s 2 aq l.1)] [20,21,22]) 1 (aV) ?_))))));rintro k ⟨x,y⟩ A h;refine ad i (da h (λB h=>aA (bH (au h λC m h=>ag i [a8 aq m,.z (.nat 23)] (bU h λD o F p h=>bK i bJ [ay (e C _ o),.z (.int 0),cq (cU aq p),b4 2 f' x,b4 2 f' [D]] (bs i ⟨(F,wr (y+1)),(A+1),h,aV⟩))))) λB h=>?_);cases h;exact bF (ag i [.z (.at 2),.z (.bT 22 [] [21])] aF)
theorem VL(G:cK): ∀(n:Nat) (e:Expr) (c:FuncId) (a:List T) (change:aE->Option aE) (d: ∀(C:aE) r,change C=aa r->bm G c [V.agg (cF C),V.aU a] (V.agg (cF r))) {r:Expr} (h:kb n e change=aa r),bm G 234 [V.agg (ee e),V.fn c [V.aU a]] (V.agg (ee r)):=by
 intro n;induction n with
 |zero=>intro e c a change d r h;rw[kb.eq_def] at h;cases h
 |succ n F=>
  intro e c a change d r h;rw[kb.eq_def] at h;dsimp only at h;refine bE aT func234 rfl λw X i=>ag i [.z (.b (ab)),.z (.nat 20)] (ag i [.z (.nat 21)] (bZ h (λk=>bx [(1,V.fn c [V.aU a]),(2,V.aU (bn e)),(4,V.ref 20 0),(5,V.ref 21 0)] [(20,E.cells [Y 0,Y 0,bw,Y 0,cc [],bw,bw]),(21,E.cells [Y e.kind,Y e.num,aI ai k.1,Y k.2.1,cc k.2.2.1,aI aq k.2.2.2,bw])] [20,21]) (λt h=>?_) ?_))
  ·refine ad i (bu (ad i (aD h (λH h=>?_) λH h=>?_)))
   ·obtain⟨u,x,h⟩:=c9 h;exact aG i [ay (d e.index _ x)] (az h)
   refine ad i (aD h (λK h=>?_) λK h=>aA (az h));obtain⟨v,y,h⟩:=c9 h;exact aG i [ay (TQ G n e.read c a change d y)] (az h)
  rintro⟨L,Q,R,W⟩ h;refine ao (ag i [aN aJ e.aZ] (bu (aQ i [.ch 21 6 22 116] (cT h (λk D=>bx [(1,V.fn c [V.aU a]),(4,V.ref 20 0),(5,V.ref 21 0),(30,aI aJ e.aZ),(31,Y (e.aZ.length:Int)),(32,Y k.2)] [(20,E.cells [Y 0,Y 0,bw,Y 0,cc [],bw,bw]),(21,E.cells [Y e.kind,Y e.num,aI ai L,Y Q,cc R,aI aq W,ms 22 D 7 aJ k.1]),(22,aK 116 D 7 aJ k.1)] [20,21,22]) 1 (aV) ?_))));rintro o ⟨f,g⟩ A h;refine ad i (da h (λj h=>?_) λj h=>?_)
  ·refine aA (bH ?_);obtain⟨l,p,h⟩:=c9 h;refine ag i [.z (.row (bn l)),.z (.nat 23),ar (gb aJ p (cP l))] ?_;obtain⟨m,q,B,s,h⟩:=h8 h;exact bK i bJ [ay (F l c a change d q),.z (.int 2),.z (.rows (bk aJ [m])),ar (r5 m),cq (cU aJ s),b4 7 j7 f,b4 7 j7 [m]] (bs i ⟨(B,wr (g+1)),(A+1),h,aV⟩)
  cases h;exact bF (ag i [.z (.at 2),.z (.bT 22 [] [21])] aF)
theorem VJ(G:cK)(n:Nat)(s:Stmt)(c:FuncId)(a:List T)(change:aE->Option aE)(d: ∀(k:aE) r,change k=aa r->bm G c [V.agg (cF k),V.aU a] (V.agg (cF r))){r:Stmt}(h:oS n s change=aa r):bm G 173 [V.agg (fU s),V.fn c [V.aU a]] (V.agg (fU r)):=by refine bE aT func173 rfl λw X l=>ag l [.z (.b (ab)),.z (.nat 20)] (ao (bU h λm e o i h=>?_));cases h;exact bK l bJ [ay (TQ G n s.write c a change d e),ay (VL G n s.value c a change d i)] aF
theorem TP(G:cK)(n:Nat)(a:cx)(e:FuncId)(c:List T)(d:List T)(change:aE->Option aE)(i: ∀(s:aE) r,change s=aa r->bm G e [V.agg (cF s),V.aU c,V.aU d] (V.agg (cF r))){r:cx}(h:q8 n a change=aa r):bm G 233 [V.agg (d8 a),V.fn e [V.aU c,V.aU d]] (V.agg (d8 r)):=by refine bE aT func233 rfl λw X k=>ag k [.z (.b (ab)),.z (.nat 20)] (ag k [.z (.nat 21)] (ao (ag k [aN aq a.ba] (bu (aQ k [.ch 21 1 22 92] (cT h (λm x=>bx [(1,V.fn e [V.aU c,V.aU d]),(4,V.ref 20 0),(5,V.ref 21 0),(12,aI aq a.ba),(13,Y (a.ba.length:Int)),(14,Y m.2)] [(20,E.cells [cc [],bw]),(21,E.cells [cc a.array,ms 22 x 2 aq m.1]),(22,aK 92 x 2 aq m.1)] [20,21,22]) 1 (aV) ?_))))));rintro l ⟨y,A⟩ B h;refine ad k (da h (λC h=>aA (bH (au h λD o h=>ag k [a8 aq o,.z (.nat 23)] (bU h λF p H q h=>bK k bJ [ay (i D _ p),.z (.int 0),cq (cU aq q),b4 2 f' y,b4 2 f' [F]] (bs k ⟨(H,wr (A+1)),(B+1),h,aV⟩))))) λC h=>?_);cases h;exact bF (ag k [.z (.at 2),.z (.bT 22 [] [21])] aF)
theorem VK(G:cK): ∀(n:Nat) (e:Expr) (d:FuncId) (a:List T) (c:List T) (change:aE->Option aE) (i: ∀(D:aE) r,change D=aa r->bm G d [V.agg (cF D),V.aU a,V.aU c] (V.agg (cF r))) {r:Expr} (h:kb n e change=aa r),bm G 234 [V.agg (ee e),V.fn d [V.aU a,V.aU c]] (V.agg (ee r)):=by
 intro n;induction n with
 |zero=>intro e d a c change i r h;rw[kb.eq_def] at h;cases h
 |succ n H=>
  intro e d a c change i r h;rw[kb.eq_def] at h;dsimp only at h;refine bE aT func234 rfl λw X k=>ag k [.z (.b (ab)),.z (.nat 20)] (ag k [.z (.nat 21)] (bZ h (λl=>bx [(1,V.fn d [V.aU a,V.aU c]),(2,V.aU (bn e)),(4,V.ref 20 0),(5,V.ref 21 0)] [(20,E.cells [Y 0,Y 0,bw,Y 0,cc [],bw,bw]),(21,E.cells [Y e.kind,Y e.num,aI ai l.1,Y l.2.1,cc l.2.2.1,aI aq l.2.2.2,bw])] [20,21]) (λu h=>?_) ?_))
  ·refine ad k (bu (ad k (aD h (λK h=>?_) λK h=>?_)))
   ·obtain⟨v,y,h⟩:=c9 h;exact aG k [ay (i e.index _ y)] (az h)
   refine ad k (aD h (λL h=>?_) λL h=>aA (az h));obtain⟨I,A,h⟩:=c9 h;exact aG k [ay (TP G n e.read d a c change i A)] (az h)
  rintro⟨Q,R,W,f⟩ h;refine ao (ag k [aN aJ e.aZ] (bu (aQ k [.ch 21 6 22 116] (cT h (λl F=>bx [(1,V.fn d [V.aU a,V.aU c]),(4,V.ref 20 0),(5,V.ref 21 0),(30,aI aJ e.aZ),(31,Y (e.aZ.length:Int)),(32,Y l.2)] [(20,E.cells [Y 0,Y 0,bw,Y 0,cc [],bw,bw]),(21,E.cells [Y e.kind,Y e.num,aI ai Q,Y R,cc W,aI aq f,ms 22 F 7 aJ l.1]),(22,aK 116 F 7 aJ l.1)] [20,21,22]) 1 (aV) ?_))));rintro p ⟨g,j⟩ B h;refine ad k (da h (λt h=>?_) λt h=>?_)
  ·refine aA (bH ?_);obtain⟨m,q,h⟩:=c9 h;refine ag k [.z (.row (bn m)),.z (.nat 23),ar (gb aJ q (cP m))] ?_;obtain⟨o,s,C,x,h⟩:=h8 h;exact bK k bJ [ay (H m d a c change i s),.z (.int 2),.z (.rows (bk aJ [o])),ar (r5 o),cq (cU aJ x),b4 7 j7 g,b4 7 j7 [o]] (bs k ⟨(C,wr (j+1)),(B+1),h,aV⟩)
  cases h;exact bF (ag k [.z (.at 2),.z (.bT 22 [] [21])] aF)
theorem VI(G:cK)(n:Nat)(s:Stmt)(d:FuncId)(a:List T)(c:List T)(change:aE->Option aE)(e: ∀(l:aE) r,change l=aa r->bm G d [V.agg (cF l),V.aU a,V.aU c] (V.agg (cF r))){r:Stmt}(h:oS n s change=aa r):bm G 173 [V.agg (fU s),V.fn d [V.aU a,V.aU c]] (V.agg (fU r)):=by refine bE aT func173 rfl λw X m=>ag m [.z (.b (ab)),.z (.nat 20)] (ao (bU h λo i p k h=>?_));cases h;exact bK m bJ [ay (TP G n s.write d a c change e i),ay (VK G n s.value d a c change e k)] aF
theorem Sx(G:cK)(n:Nat)(a:List Part)(i:Int)(p:Part)(m:aB a i=aa p)(g:Nat)(e:Int)(q:FuncId)(c:List T)(f:aE->Option aE)(R: ∀(W:aE) r,f W=aa r->bm G q [V.agg (cF W),V.aU c] (V.agg (cF r))){t:Part}(h:pw n p e f=aa t)(H:cd a i t=aa b):
  b' G 94 [E.aC cg 0 g (a.map an) []] [V.cQ 0 g 2 (0+bt i) 0,Y e,V.fn q [V.aU c]] (V.bY []) [E.aC cg 0 g (bk an b) []]:=by refine cj aT func94 rfl λw X v d S=>ao (ad d (cV d [.cZ 0 21 (0+bt i) 0 (an p),.cZ 0 22 (0+bt i) 1 (an p),.ec 22] (a2 (bP an m) (bP an m)) (bu (cv h (λs=>bx [(0,V.cQ 0 g 2 (0+bt i) 0),(2,V.fn q [V.aU c]),(6,Y s.2)] [(0,E.aC cg 0 g (a.map an) [((0+bt i),1,ms 22 1 9 ax p.body),((0+bt i),0,ms 21 1 2 aw p.nest)]),(21,E.aC cg 1 1 (s.1.map aw) []),(22,aK 118 1 9 ax p.body)] [0,21,22]) aV ?_))));rintro D ⟨x,k⟩ h;refine au h λU o h=>ao (ag d [bD an m,.z (.nat x.length),ar (QX aw o)] (aD h (λI h=>aA (bH (cX h λM A js K ma L h=>aG d [bD an m,ar (C0 aw o A),a' [21] [] (Sz G n x k M A 1 q c f R K L)] (bs d (az h))))) λI h=>bF (ag d [bD an m,aN ax p.body] (bu (cv h (λs=>bx [(0,V.cQ 0 g 2 (0+bt i) 0),(2,V.fn q [V.aU c]),(30,ms 22 1 9 ax s.1),(31,Y (p.body.length:Int)),(32,Y s.2)] [(0,E.aC cg 0 g (a.map an) [((0+bt i),1,ms 22 1 9 ax p.body),((0+bt i),0,ms 21 1 2 aw p.nest)]),(21,E.aC cg 1 1 (x.map aw) []),(22,aK 118 1 9 ax s.1)] [0,21,22]) aV ?_)))));rintro F ⟨y,j⟩ h;refine au h λs2 B h=>ad d (da h (λN h=>aA (bH (au h λP l h=>ag d [ar (bM ax l),bD ax l,.z (.nat 24)] (bU h λkp Q u C h=>bK d bJ [bD an m,ay (VJ G n P q c f R Q),ar (C0 ax B l),bD ax l,.z (.rows (u.map ax)),ar (str ax C)] (cV d [.len 30 (u.map ax).length] (aP (cS ax C)) (bs d (az h))))))) λN h=>?_);cases h;exact cV d [.b1 22 cg 2,.cr 0 22 (an p) (bk an (a.set i.toNat (⟨p.nest,y⟩:Part))),.cr 0 21 (an (⟨p.nest,y⟩:Part)) (bk an b)] (fI (jm ax B) (bd cg) (bP an m) (ha an (w9 H (⟨p.nest,y⟩:Part)) rfl) (jm aw o) (bd cg) (bP an (uM H (⟨p.nest,y⟩:Part))) (ha an (w8 H (⟨p.nest,y⟩:Part)) rfl)) (bF qL)
theorem Kb(G:cK)(n:Nat)(a:List Part)(i:Int)(p:Part)(o:aB a i=aa p)(g:Nat)(l:Int)(s:FuncId)(c:List T)(d:List T)(f:aE->Option aE)(W: ∀(t:aE) r,f t=aa r->bm G s [V.agg (cF t),V.aU c,V.aU d] (V.agg (cF r))){u:Part}(h:pw n p l f=aa u)(K:cd a i u=aa b):
  b' G 94 [E.aC cg 0 g (a.map an) []] [V.cQ 0 g 2 (0+bt i) 0,Y l,V.fn s [V.aU c,V.aU d]] (V.bY []) [E.aC cg 0 g (bk an b) []]:=by refine cj aT func94 rfl λw X I e U=>ao (ad e (cV e [.cZ 0 21 (0+bt i) 0 (an p),.cZ 0 22 (0+bt i) 1 (an p),.ec 22] (a2 (bP an o) (bP an o)) (bu (cv h (λA=>bx [(0,V.cQ 0 g 2 (0+bt i) 0),(2,V.fn s [V.aU c,V.aU d]),(6,Y A.2)] [(0,E.aC cg 0 g (a.map an) [((0+bt i),1,ms 22 1 9 ax p.body),((0+bt i),0,ms 21 1 2 aw p.nest)]),(21,E.aC cg 1 1 (A.1.map aw) []),(22,aK 118 1 9 ax p.body)] [0,21,22]) aV ?_))));rintro F ⟨x,k⟩ h;refine au h λs1 q h=>ao (ag e [bD an o,.z (.nat x.length),ar (QX aw q)] (aD h (λM h=>aA (bH (cX h λN B js L ma Q h=>aG e [bD an o,ar (C0 aw q B),a' [21] [] (Sy G n x k N B 1 s c d f W L Q)] (bs e (az h))))) λM h=>bF (ag e [bD an o,aN ax p.body] (bu (cv h (λA=>bx [(0,V.cQ 0 g 2 (0+bt i) 0),(2,V.fn s [V.aU c,V.aU d]),(30,ms 22 1 9 ax A.1),(31,Y (p.body.length:Int)),(32,Y A.2)] [(0,E.aC cg 0 g (a.map an) [((0+bt i),1,ms 22 1 9 ax p.body),((0+bt i),0,ms 21 1 2 aw p.nest)]),(21,E.aC cg 1 1 (x.map aw) []),(22,aK 118 1 9 ax A.1)] [0,21,22]) aV ?_)))));rintro H ⟨y,j⟩ h;refine au h λs2 C h=>ad e (da h (λP h=>aA (bH (au h λS m h=>ag e [ar (bM ax m),bD ax m,.z (.nat 24)] (bU h λkp R v D h=>bK e bJ [bD an o,ay (VI G n S s c d f W R),ar (C0 ax C m),bD ax m,.z (.rows (v.map ax)),ar (str ax D)] (cV e [.len 30 (v.map ax).length] (aP (cS ax D)) (bs e (az h))))))) λP h=>?_);cases h;exact cV e [.b1 22 cg 2,.cr 0 22 (an p) (bk an (a.set i.toNat (⟨p.nest,y⟩:Part))),.cr 0 21 (an (⟨p.nest,y⟩:Part)) (bk an b)] (fI (jm ax C) (bd cg) (bP an o) (ha an (w9 K (⟨p.nest,y⟩:Part)) rfl) (jm aw q) (bd cg) (bP an (uM K (⟨p.nest,y⟩:Part))) (ha an (w8 K (⟨p.nest,y⟩:Part)) rfl)) (bF qL)
theorem UN(G:cK)(n:Nat)(a:aE)(c:Int){r:aE}(h:vM n a c=aa r):bm G 95 [V.agg (cF a),V.aU [T.int .i64 c]] (V.agg (cF r)):=bE aT func95 rfl λw X i=>ag i [.z (.b (ab)),.z (.nat 20)] (au h λs o h=>ag i [a' [] [21] (vQ G n a o),.z (.nat 22)] (ao (cX h λx k y d p e h=>bU h λA l q m h=>av h▸bK i bJ [ar (bM ai k),bD ai k,ar (bM ai d),bD ai d,ar (bM ai d),bD ai d,.z (.rows (p.map ai)),ar (str ai e),ar (IV ai l (cS ai e)),bD ai l,.z (.rows (q.map ai)),ar (str ai m)] (cV i [.len 11 (p.map ai).length,.eY 22 0 (p.map ai).length,.eY 22 0 (q.map ai).length] (a3 (cS ai e) (cS ai e) (cS ai m)) (ag i [.z (.at 2),.z (.bT 21 [] [22])] aF)))))
theorem acb{r:List k}{j:Int}{x:k}(h:cd l i x=aa r)(a:aB l j=aa y)(b:0+i.toNat≠0+j.toNat):aB r j=aa y:=by obtain⟨_,_,rfl⟩:=tL h;obtain⟨c,d⟩:=kc a;unfold aB;rw[bg c,ls O];exact d
theorem afh{x:k}(h:aB l i=aa x)(b:aB l (wr (i+1))=aa y)(c: ¬(i<0)):0+bt i≠0+bt (wr (i+1)):=by
 intro e;have d:=kc b;have m:=(kc h).1;have a:wr (i+1)=i:=O
 unfold wr at a;rw[IntKind.wrap_i64] at a;omega
theorem Wr(G:cK)(n:Nat)(a:aE)(h:ES n a=aa r):bm G 235 [V.agg (cF a)] (aW r):=bE aT func235 rfl λw X d=>ag d [.z (.b (ab))] (au h λe c h=>av h▸ag d [ay (sK G c)] aF)
theorem Fq{a}{r}(h:Ac n a=aa r):bm G 174 [aI aq a] (aW r):=bE aT func174 rfl λw X d=>ad d (au h λe b h=>av h▸ag d [ay (alf G n a 235 (λc=>ES n c) (λc r h=>Wr G n c h) b)] aF)
theorem KB{l}{r}(h:wg n l=aa r):bm G 98 [V.agg (iy l)] (V.bY [Y r.1,Y r.2.1,aW r.2.2]):=bE aT func98 rfl λw X d=>ag d [.z (.b (ab))] (ao (bZ h (λp=>b2 [(1,V.aU (aw l)),(26,aW p)]) (λs h=>bh h (λa h=>bh h (λc h=>au h λx e h=>bh h (λi h=>au h λy k h=>aG d ([aN aq l.bq]++aR 3 a++[aN aq l.aL,aO a,aO a]++aR 3 c++[ay (Fq G e),aO c,aO c]++aR 3 i++[ay (Fq G k),aO i,aO i]) (az h)) λi h=>aG d ([aN aq l.bq]++aR 3 a++[aN aq l.aL,aO a,aO a]++aR 3 c++[ay (Fq G e),aO c,aO c]++aX 5 i) (az h)) λc h=>aG d ([aN aq l.bq]++aR 3 a++[aN aq l.aL,aO a,aO a]++aX 5 c++d' 5) (az h)) λa h=>aG d ([aN aq l.bq]++aX 5 a++d' 10) (az h)) λA h=>aD h (λq h=>av h▸ad d aF) λq h=>aA (ao (bU h λB m C o h=>av h▸bK d bJ [a8 aq m,a8 aq o] aF))))
theorem UK(G:cK)(n:Nat)(d:List Int)(c:Nat)(a:Int){r:(List Int)}(h:vL n d a=aa r):b' G 99 [aK 3 c 1 ai d] [ms 0 c 1 ai d,V.aU [T.int .i64 a]] (V.bY []) [aK 3 c 1 ai r]:=cj aT func99 rfl λw X i k m=>bU h λo b l e h=>av h▸bK k bJ [ar (bM ai b),bD ai b,ar (bM ai b),bD ai b,.z (.rows (l.map ai)),ar (str ai e)] qL
theorem wj{a}{r}(h:pK n a=aa r):b' G 109 [] [Y a] (V.agg [ms 0 1 1 ai r.aM,Y r.const]) [aK 3 1 1 ai r.aM]:=cj aT func109 rfl λw X d c e=>ag c [.z (.nat 20)] (au h λi b h=>av h▸ag c [.z (.nat 21),cq (lo ai b),ar (jE b).1] (aQ c [.bp 21 0 [] [20]] b0))
theorem tj{v}{k}{r}(h:nH n v k=aa r):b' G 100 [] [Y v,Y k] (V.agg [ms 0 1 1 ai r.aM,Y r.const]) [aK 3 1 1 ai r.aM]:=cj aT func100 rfl λw X i a l=>ag a [.z (.nat 20)] (au h λm d h=>ag a [a' [] [21] (wj G d),.z (.nat 22)] (bU h λo b e c h=>av h▸ag a [ar (bM ai b),bD ai b,.z (.rows (e.map ai)),.z (.eY 22 0 (e.map ai).length),ar (str ai c),ar (cS ai c)] (ad a (aQ a [.bp 21 0 [] [20,22]] b0))))
theorem Ci{a}{k}{b}{r}(h:sr n a k b=aa r):b' G 106 [] [V.agg (cF a),Y k,V.agg (cF b)] (V.agg [ms 0 1 1 ai r.aM,Y r.const]) [aK 3 1 1 ai r.aM]:=by refine cj aT func106 rfl λw X s c C=>ag c [.z (.b (ab)),.z (.b (ab)),.z (.nat 20)] (au h λx l h=>ag c [a' [] [21] (vQ G n a l),.z (.nat 22)] (ao (ag c [aN ai b.aM] (bu (cT h (λm q=>bx [(1,Y k),(5,V.aU (aq b)),(6,V.ref 20 0),(7,V.ref 22 0),(13,aI ai b.aM),(14,Y (b.aM.length:Int)),(15,Y m.2)] [(20,E.cells [bw,Y 0]),(21,aK 3 q 1 ai m.1),(22,E.cells [ms 21 q 1 ai m.1,Y x.const])] [20,21,22]) 1 (aV) ?_)))));rintro i ⟨D,y⟩ A h;exact ad c (da h (λB h=>aA (bH (au h λF o h=>ag c [a8 ai o] (bU h λH d p e h=>aG c [ar (bM ai d),bD ai d,ar (bM ai d),bD ai d,.z (.rows (p.map ai)),.z (.eY 22 0 (p.map ai).length),ar (str ai e),ar (cS ai e)] (bs c ⟨(p,wr (y+1)),A,h,aV⟩))))) λB h=>av h▸bF (ad c (ad c (aQ c [.bp 21 0 [] [20,22]] b0))))
theorem Ga{a}{v}{b}{r}(h:uD n a v b=aa r):b' G 102 [] [V.agg (cF a),Y v,V.agg (cF b)] (V.agg [ms 0 1 1 ai r.aM,Y r.const]) [aK 3 1 1 ai r.aM]:=cj aT func102 rfl λw X m d o=>ag d [.z (.b (ab)),.z (.b (ab)),.z (.nat 20)] (au h λp i h=>ag d [a' [] [21] (vQ G n a i),.z (.nat 22)] (au h λq c h=>ag d [ar (bM ai c),bD ai c] (au h λl e h=>ag d [ar (bM ai c),bD ai c,.z (.rows (l.map ai)),.z (.eY 22 0 (l.map ai).length),ar (str ai e),ar (cS ai e)] (au h λs k h=>av h▸ag d [.z (.at 5),.z (.bT 21 [] [22]),a' [] [23] (Ci G k)] (aQ d [.bp 23 0 [] [20]] b0)))))
end
variable (G:cK){n:Nat}
variable {r:aE}{k:Type}{l x:List k}{o:Nat}{a:TypeInfo}{z:Value}
theorem UJ(G:cK)(n:Nat)(a:aE)(c:Int)(d:aE)(h:vK n a c d=aa r):bm G 101 [V.agg (cF a),V.aU [T.int .i64 c],V.aU (aq d)] (V.agg (cF r)):=bE aT func101 rfl λw X e=>ag e [.z (.b (ab)),.z (.nat 20)] (au h λk i h=>av h▸ag e [a' [] [21] (Ga G i)] (aQ e [.bT 21 [] [20]] aF))
theorem MJ{a}{r}(h:xG n a=aa r):bm G 103 [Y a] (aW r):=bE aT func103 rfl λw X c=>ad c (au h λd b h=>av h▸ag c [ay (ga G b)] aF)
theorem VQ(G:cK)(n:Nat)(a:aE)(c:Int)(d:Int)(h:zk n a c d=aa r):bm G 105 [V.agg (cF a),V.aU [T.int .i64 c],V.aU [T.int .i64 d]] (V.agg (cF r)):=bE aT func105 rfl λw X e=>ag e [.z (.b (ab)),.z (.nat 20)] (ao (bU h λl i m k h=>av h▸bK e bJ [a' [] [21] (tj G i),.z (.at 2),.z (.bT 21 [8] []),a' [] [22] (Ci G k)] (aQ e [.bT 22 [] [20]] aF)))
theorem VP(G:cK)(n:Nat)(a:aE)(c:Int)(d:aE)(h:we n a c d=aa r):bm G 107 [V.agg (cF a),V.aU [T.int .i64 c],V.aU (aq d)] (V.agg (cF r)):=bE aT func107 rfl λw X e=>ag e [.z (.b (ab)),.z (.nat 20)] (au h λk i h=>av h▸ag e [a' [] [21] (Ga G i)] (aQ e [.bT 21 [] [20]] aF))
theorem U8(G:cK)(n:Nat)(a:aE)(c:Int)(h:y' n a c=aa r):bm G 108 [V.agg (cF a),V.aU [T.int .i64 c]] (V.agg (cF r)):=bE aT func108 rfl λw X d=>ag d [.z (.b (ab)),.z (.nat 20)] (ao (bU h λk e l i h=>av h▸bK d bJ [a' [] [21] (wj G e),.z (.at 2),.z (.bT 21 [6] []),a' [] [22] (Ci G i)] (aQ d [.bT 22 [] [20]] aF)))
theorem U7(G:cK)(n:Nat)(a:aE)(c:Int)(d:aE)(h:v8 n a c d=aa r):bm G 110 [V.agg (cF a),V.aU [T.int .i64 c],V.aU (aq d)] (V.agg (cF r)):=bE aT func110 rfl λw X e=>ag e [.z (.b (ab)),.z (.nat 20)] (au h λk i h=>av h▸ag e [a' [] [21] (Ga G i)] (aQ e [.bT 21 [] [20]] aF))
theorem ad3(f:k->List T){m:Nat}(b:o<l.length)(a:m=l.length-o):o+m<=(l.map f).length/\(sA l o x).map f=(l.map f).take o++(x.map f).take (Nat.min (x.map f).length m)++(l.map f).drop (o+Nat.min (x.map f).length m):=by subst a;refine⟨by rw[dF];omega,?_⟩;unfold sA;rw[ic,ic,p6,p6,List.map_drop,dF]
theorem OJ(f:k->List T)(a:o<l.length):(l.map f).length=((sA l o x).map f).length:=by
 unfold sA;simp only[List.length_map,List.length_append,List.length_take,List.length_drop]
 have:Nat.min x.length (l.length-o)=min x.length (l.length-o):=rfl;omega
theorem U4(G:cK)(n:Nat)(a:aE)(c:Int)(h:v7 n a c=aa r):bm G 112 [V.agg (cF a),V.aU [T.int .i64 c]] (V.agg (cF r)):=by
 refine bE aT func112 rfl λw X e=>ag e [.z (.b (ab)),.z (.nat 20)] (au h λd y h=>ag e [a' [] [21] (vQ G n a y),.z (.nat 22)] (iN (aj ((0:Int)<=wr (c+1))) (λq=>?_) λq=>?_))
 ·have h:=gA q h;exact ix h
 have h:=gS q h;refine iN (aj (wr (c+1)<(d.aM.length:Int))) (λs=>?_) λs=>?_
 ·have h:=gA s h;exact ix h
 have h:=gS s h;have C:=e3 q;have D:=e3 s;exact cX h λi A F k B p h=>av h▸ao (bK e bJ [.z (.nat (wr (c+1)).toNat),.z (.nat (d.aM.length-(wr (c+1)).toNat)),ar (GQ ai d.aM C D),cq (pN ai A),.z (.rows (bk ai (sA d.aM (wr (c+1)).toNat i))),.z (.nat (Nat.min (i.map ai).length (d.aM.length-(wr (c+1)).toNat))),dE a.aM,dE i,ar (ad3 ai (l:=d.aM) (x:=i) (o:=(wr (c+1)).toNat) (m:=d.aM.length-(wr (c+1)).toNat) O rfl)] (ag e [ar (IV ai k (OJ ai (l:=d.aM) (x:=i) (o:=(wr (c+1)).toNat) O)),bD ai k,.z (.rows (B.map ai)),.z (.eY 22 0 (B.map ai).length),ar (str ai p),ar ((OJ ai (l:=d.aM) (x:=i) (o:=(wr (c+1)).toNat) O).trans (cS ai p))] (aQ e [.bT 21 [] [22]] (ad e aF))))
open Go.RowKit Go.Lib in
set_option maxHeartbeats 4000000 in
set_option maxRecDepth 100000 in
theorem Wy(b n c i d m s:Nat)(l vs:List Value)(w:World)(aL:i<n)(hm:0<m)(L:n+m<=c)(V:c<=9223372036854775807)(y:d≠b)
  (Q:l.length=n*2) (R:vs.length=m*2)
  (X: ∀j v,l[j]? =aa v->w.cell? ⟨b,j,ak⟩=aa v) (q: ∀j,j<(n+m)*2->(w.cell? ⟨b,j,ak⟩).isSome=ab) (z: ∀j,w.frozen? ⟨b,j,ak⟩=al)
  (f: ∀j v,vs[j]? =aa v->w.cell? ⟨d,j,ak⟩=aa v) (g: ∀v∈l,v.oneCell'=ab) (t: ∀v∈vs,v.oneCell'=ab)
  (Y tU:TypeId) (u E:Nat) (I:w.shape? d=aa (Y,u)) (M:w.shape? b=aa (tU,E)) (N:E≠0) (A: ∀j,w.frozen? ⟨d,j,ak⟩=al):
  Calls prog 113 #[.slice (aa ⟨b,0,ak⟩) n c,.int .i64 i,.slice (aa ⟨d,0,ak⟩) m s] w λe w'=>
   e= .returned (.slice (aa ⟨b,0,ak⟩) (n+m) c)/\w'=(w.drew.setCells b ((i+m)*2) (l.drop (i*2))).setCells b (i*2) vs:=by
 have yP: ¬((m:Int)=0):=O
 have pF: ¬((i:Int)=(n:Int)):=O
 have mJ:IntKind.i64.wrap ((i:Int)+(m:Int))=(i:Int)+(m:Int):=by rw[IntKind.wrap_i64];omega
 have lb:(0:Int)<=(i:Int)+(m:Int):=O
 have kM:i<=n:=O
 have JQ:((i:Int)+(m:Int)).toNat=i+m:=O
 have vz: ¬(c=i+m):=O
 have yD:(i:Int)<=(n:Int)+(m:Int):=O
 have agU: ¬(c=i):=O
 have P: ∀S T,(callFunc 175 #[.slice (aa ⟨d,0,ak⟩) m s,.slice (aa ⟨b,(i+m)*2,ak⟩) S T]).run prog w= .ok (.value (.bool al)) w:=λS T=>by
  rw[run_callFunc_extern func175 J J J (e:=Extern.SlicesOverlaps.overlaps #[83,83] #[4]) J,
   Lib.run_overlaps_apart w 83 4 82 underlying83 2 sizeOf82 ⟨d,0,ak⟩ ⟨b,(i+m)*2,ak⟩ m s S T y Y tU u E I M N (A 0) (A u)]
  rfl
 have B:(l.drop (i*2)).length=(n-i)*2:=by rw[fN,Q];omega
 have C:(prog.info? 82).map (·.size)=aa 2:=J
 have p: ∀ty r km,(Builtin.copy_ #[83,83] ty #[.slice (aa ⟨b,(i+m)*2,ak⟩) (n+m-(i+m)) r,.slice (aa ⟨b,i*2,ak⟩) (n+m-i) km]).run prog w.drew= .ok (goInt ((n-i:Nat):Int)) (w.drew.setCells b ((i+m)*2) (l.drop (i*2))):=λty r km=>
  rj w.drew 83 83 ty 82 2 b ((i+m)*2) (n+m-(i+m)) r ⟨b,i*2,ak⟩ (n+m-i) km (n-i) (l.drop (i*2)) underlying83 C (by simp only[Nat.min_def];split<;>omega) B
   (λj v o=>by rw[Addr.add_lit];exact X (i*2+j) v (by rwa [fv] at o))
   (λj o=>q _ O) (λj o=>z _) λv bR=>g v (ft bR)
 obtain⟨D,a⟩: ∃D,D=w.drew.setCells b ((i+m)*2) (l.drop (i*2)):=⟨_,rfl⟩
 have F: ∀k,k<(n+m)*2->(D.cell? ⟨b,k,ak⟩).isSome=ab:=λk hk=>by
  rw[a];exact m7 b (l.drop (i*2)) ((i+m)*2) w.drew (λj o=>q _ (by rw[B] at o;omega)) k (q k hk)
 have H: ∀(W:World),(∀x,W.cell? x=D.cell? x)->(∀x,W.frozen? x=D.frozen? x)-> ∀ty r,(Builtin.copy_ #[83,83] ty #[.slice (aa ⟨b,i*2,ak⟩) (n+m-i) r,.slice (aa ⟨d,0,ak⟩) m s]).run prog W= .ok (goInt m) (W.setCells b (i*2) vs):=λW K U ty r=>
  rj W 83 83 ty 82 2 b (i*2) (n+m-i) r ⟨d,0,ak⟩ m s m vs underlying83 C (by simp only[Nat.min_def];split<;>omega) R
   (λj v o=>by
    rw[Addr.add_lit,dy,K,a,World.cell?_setCells_out b _ _ _ _ λh _=>br h y];exact f j v o)
   (λj o=>by rw[K];exact F _ O) (λj o=>by rw[U,a,World.frozen?_setCells];exact z _) t
 rw[<-a] at p
 go_enter func113,Tryz.ntmps113
 go_wp2_with (simp only[P])
 go_region_law (refine DN rfl _ _ 83 83 rfl _ _ (by simp[Act.eval,Act.put]) (by simp[Act.eval,Act.put]) (p _ _ _) ?_)
 go_wp2_with (at_builtin;refine vn _ rfl _ _ 83 83 rfl _ _ rfl rfl (H _ (λ_=>rfl) (λ_=>rfl) _ _) ?_)
 go_ret
 first|exact⟨rfl,rfl⟩|exact⟨rfl,by rw[a]⟩
open Go.RowKit Go.Lib in
set_option maxHeartbeats 4000000 in
set_option maxRecDepth 100000 in
theorem WC(b n c i y m S:Nat)(k l:List Value)(w:World)(aL:i<n)(hm:0<m)(ahz:n<=c)(C:c<n+m)(D:TypeInfo)(z:Value)(Q:prog.info? 82=aa D)(T:D.zero=aa z)(R:D.size=2)(U:z.cells.size=2)(hle:n+m<=1000000000)(X:(n+m)*D.bytes<=140737488355328)
  (V:k.length=n*2) (f:l.length=m*2)
  (F: ∀j v,k[j]? =aa v->w.cell? ⟨b,j,ak⟩=aa v)
  (g: ∀j v,l[j]? =aa v->w.cell? ⟨y,j,ak⟩=aa v) (Y: ∀v∈k,v.oneCell'=ab) (py: ∀v∈l,v.oneCell'=ab):
  Calls prog 113 #[.slice (aa ⟨b,0,ak⟩) n c,.int .i64 i,.slice (aa ⟨y,0,ak⟩) m S] w λe w'=>
   e= .returned (.slice (aa ⟨w.heap.size,0,ak⟩) (n+m) (grownCap w (n+m) c 82))/\
   w'=(((w.alloc (.cells ((k.take (i*2)).toArray++eh z.cells (n+m-i)++eh z.cells (grownCap w (n+m) c 82-(n+m))) 82)).drew.setCells w.heap.size (i*2) l).drew).setCells w.heap.size ((i+m)*2) (k.drop (i*2)):=by
 have yP: ¬((m:Int)=0):=O
 have pF: ¬((i:Int)=(n:Int)):=O
 have aif:(c:Int)<(n:Int)+(m:Int):=O
 have u:(prog.info? 82).map (·.size)=aa 2:=by rw[Q];simp[R]
 have Jx:b<w.heap.size:=block_lt_of_cell (F 0 _ (bC O));have JU:y<w.heap.size:=block_lt_of_cell (g 0 _ (bC O));have E:(n:Int)+(m:Int)-(i:Int)=((n+m-i:Nat):Int):=O
 have H:i+(n+m-i)=n+m:=O
 have A:(Builtin.firstCells D.size i (.slice (aa ⟨b,0,ak⟩) i c)).run prog w.drew= .ok (k.take (i*2)).toArray w.drew:=by
  rw[R];exact run_firstCells_some w.drew 2 i ⟨b,0,ak⟩ i c (k.take (i*2)) (by rw[c6];omega) (λj v d=>by
   rw[Addr.add_lit,dy];rw[fs] at d;split at d
   ·exact F j v d
   cases d)
 have s: ∀ty,(Builtin.append_ #[83,3] ty #[.slice (aa ⟨b,0,ak⟩) i c,.int .i64 ((n:Int)+(m:Int)-(i:Int))]).run prog w=
   .ok (.slice (aa ⟨w.heap.size,0,ak⟩) (n+m) (grownCap w (n+m) c 82)) (w.drew.alloc (.cells ((k.take (i*2)).toArray++eh z.cells (n+m-i)++eh z.cells (grownCap w (n+m) c 82-(n+m))) 82)):=λty=>by
  have h:=Lib.run_append_grow_zeros w 83 3 ty 82 D z .i64 .i64 underlying83 underlying3 Q T (aa ⟨b,0,ak⟩) i c (k.take (i*2)) A (n+m-i) O O O O (by
   have:=dQ D.bytes (O:n+m-i<=n+m);omega) (by rw[H];exact growslice_fits C X)
  rw[H] at h;rw[E];exact h
 obtain⟨G,P⟩: ∃G,G=grownCap w (n+m) c 82:=⟨_,rfl⟩
 obtain⟨a,p⟩: ∃a:Array Value,a=(k.take (i*2)).toArray++eh z.cells (n+m-i)++eh z.cells (G-(n+m)):=⟨_,rfl⟩
 rw[<-P] at s⊢;rw[<-p] at s⊢;have oG:(n+m)*2<=a.size:=by
  rw[p];simp[eh,U];omega
 obtain⟨q,o⟩: ∃q,q=w.drew.alloc (.cells a 82):=⟨_,rfl⟩
 rw[<-o] at s;have gd: ∀j,j<(n+m)*2->(q.cell? ⟨w.heap.size,j,ak⟩).isSome=ab:=λj d=>by
  rw[o,World.cell?_alloc_at (w:=w.drew) a _ w.heap.size j rfl,hT O];rfl
 have I: ∀j,q.frozen? ⟨w.heap.size,j,ak⟩=al:=λj=>by rw[o];exact World.frozen?_alloc_at (w:=w.drew) a _ w.heap.size j rfl
 have Jr: ∀j v,w.cell? ⟨b,j,ak⟩=aa v->q.cell? ⟨b,j,ak⟩=aa v:=λj v h=>by rw[o,World.cell?_alloc_past (w:=w.drew) _ b j Jx];exact h
 have Js: ∀j v,w.cell? ⟨y,j,ak⟩=aa v->q.cell? ⟨y,j,ak⟩=aa v:=λj v h=>by rw[o,World.cell?_alloc_past (w:=w.drew) _ y j JU];exact h
 have M: ∀(W:World),(∀x,W.cell? x=q.cell? x)->(∀x,W.frozen? x=q.frozen? x)-> ∀ty K,(Builtin.copy_ #[83,83] ty #[.slice (aa ⟨w.heap.size,i*2,ak⟩) (n+m-i) K,.slice (aa ⟨y,0,ak⟩) m S]).run prog W= .ok (goInt m) (W.setCells w.heap.size (i*2) l):=λW r L ty K=>
  rj W 83 83 ty 82 2 w.heap.size (i*2) (n+m-i) K ⟨y,0,ak⟩ m S m l underlying83 u (by simp only[Nat.min_def];split<;>omega) f
   (λj v d=>by rw[Addr.add_lit,dy,r];exact Js _ v (g j v d))
   (λj d=>by rw[r];exact gd _ O) (λj d=>by rw[L];exact I _) py
 have Jn:n+m<=G:=by rw[P];exact grownCap_ge w _ _ _
 have agJ:G<=9223372036854775807:=by
  have:=grownCap_le_maxLen w (n+m) c 82 (by unfold maxLen;omega);rw[<-P] at this;unfold maxLen at this;omega
 have agK: ¬(G=i):=O
 have agL: ¬(G=i+m):=O
 have agX: ¬(c=i):=O
 have Jv:b≠w.heap.size:=O
 have N:(k.drop (i*2)).length=(n-i)*2:=by rw[fN,V];omega
 have B: ∀(W:World),(∀x,W.cell? x=(q.setCells w.heap.size (i*2) l).cell? x)->(∀x,W.frozen? x=(q.setCells w.heap.size (i*2) l).frozen? x)-> ∀ty K km,(Builtin.copy_ #[83,83] ty #[.slice (aa ⟨w.heap.size,(i+m)*2,ak⟩) (n+m-(i+m)) K,.slice (aa ⟨b,i*2,ak⟩) (n-i) km]).run prog W= .ok (goInt ((n-i:Nat):Int)) (W.setCells w.heap.size ((i+m)*2) (k.drop (i*2))):=λW r L ty K km=>
  rj W 83 83 ty 82 2 w.heap.size ((i+m)*2) (n+m-(i+m)) K ⟨b,i*2,ak⟩ (n-i) km (n-i) (k.drop (i*2)) underlying83 u (by simp only[Nat.min_def];split<;>omega) N
   (λj v d=>by
    rw[Addr.add_lit,r,World.cell?_setCells_out _ _ _ _ _ λh _=>br h Jv];exact Jr _ v (F (i*2+j) v (by rwa [fv] at d)))
   (λj d=>by rw[r];exact m7 w.heap.size l (i*2) q (λt fo=>gd _ (by rw[f] at fo;omega)) _ (gd _ (by rw[N] at d;omega)))
   (λj d=>by rw[L,World.frozen?_setCells];exact I _) λv bR=>Y v (ft bR)
 subst o;have Jl: ∀x,((w.alloc (.cells a 82)).drew).cell? x=(w.drew.alloc (.cells a 82)).cell? x:=λx=>rfl;have Jm: ∀x,((w.alloc (.cells a 82)).drew).frozen? x=(w.drew.alloc (.cells a 82)).frozen? x:=λx=>rfl;have sP: ∀x,(((w.alloc (.cells a 82)).drew.setCells w.heap.size (i*2) l).drew).cell? x=((w.drew.alloc (.cells a 82)).setCells w.heap.size (i*2) l).cell? x:=λx=>rfl;have sQ: ∀x,(((w.alloc (.cells a 82)).drew.setCells w.heap.size (i*2) l).drew).frozen? x=((w.drew.alloc (.cells a 82)).setCells w.heap.size (i*2) l).frozen? x:=λx=>rfl;have mJ:IntKind.i64.wrap ((i:Int)+(m:Int))=(i:Int)+(m:Int):=by rw[IntKind.wrap_i64];omega
 have lb:(0:Int)<=(i:Int)+(m:Int):=O
 have kM:i<=n:=O
 have JQ:((i:Int)+(m:Int)).toNat=i+m:=O
 have yD:(i:Int)<=(n:Int):=O
 clear E H A p P oG
 go_enter func113,Tryz.ntmps113
 go_wp2_with (first
  |(at_builtin;refine Lib.wpList_append_run _ rfl _ _ _ _ rfl _ _ rfl rfl _ _ (s _) ?_)
  |(at_builtin;refine vn _ rfl _ _ 83 83 rfl _ _ rfl rfl (M _ Jl Jm _ _) ?_)
  |(at_builtin;refine vn _ rfl _ _ 83 83 rfl _ _ rfl rfl (B _ (λ_=>rfl) (λ_=>rfl) _ _ _) ?_))
 go_region_law (refine DN rfl _ _ 83 83 rfl (.slice (aa ⟨w.heap.size,(i+m)*2,ak⟩) (n+m-(i+m)) (G-(i+m))) (.slice (aa ⟨b,i*2,ak⟩) (n-i) (c-i)) (by simp[Act.eval,Act.put]) (by simp[Act.eval,Act.put]) (B _ sP sQ 3 (G-(i+m)) (c-i)) ?_)
 go_wp2
 go_ret
 exact⟨rfl,rfl⟩
open Go.RowKit Go.Lib in
set_option maxHeartbeats 4000000 in
set_option maxRecDepth 100000 in
theorem WA(b d:Option Addr)(n c i h:Nat)(w:World)(p:i<=n)(q:n<=c)(r:c<=9223372036854775807):Calls prog 113 #[.slice b n c,.int .i64 i,.slice d 0 h] w λe k=>e= .returned (.slice b n c)/\k=w:=by
 have l:(i:Int)<=(n:Int):=O
 go_enter func113,Tryz.ntmps113
 cases b with
 |none=>
  go_wp2
  go_ret
  exact⟨rfl,rfl⟩
 |some a=>
  obtain⟨s,x,m⟩:=a;by_cases o:c=i
  ·go_wp2
   go_ret
   exact⟨rfl,rfl⟩
  go_wp2
  go_ret
  exact⟨rfl,rfl⟩
open Go.RowKit Go.Lib in
set_option maxHeartbeats 4000000 in
set_option maxRecDepth 100000 in
theorem Ww(b d:Option Addr)(n c m i:Nat)(w:World)(k:Value)(w':World)(r:0<m)(s:n<=c)(x:c<=9223372036854775807)(h:(Builtin.append_ #[83,83] 83 #[.slice b n c,.slice d m i]).run prog w= .ok k w'):
  Calls prog 113 #[.slice b n c,.int .i64 n,.slice d m i] w λe l=>e= .returned k/\l=w':=by
 have o: ¬((m:Int)=0):=O
 go_enter func113,Tryz.ntmps113
 cases b with
 |none=>
  go_wp2_with (at_builtin;refine Lib.wpList_append_run _ rfl _ _ _ _ rfl _ _ rfl rfl _ _ h ?_)
  go_ret
  exact⟨rfl,rfl⟩
 |some a=>
  obtain⟨y,z,p⟩:=a;by_cases q:c=n
  ·go_wp2_with (at_builtin;refine Lib.wpList_append_run _ rfl _ _ _ _ rfl _ _ rfl rfl _ _ h ?_)
   go_ret
   exact⟨rfl,rfl⟩
  go_wp2_with (at_builtin;refine Lib.wpList_append_run _ rfl _ _ _ _ rfl _ _ rfl rfl _ _ h ?_)
  go_ret
  exact⟨rfl,rfl⟩
theorem XY(s:prog.info? 82=aa a)(x:a.zero=aa z)(y:a.size=2)(A:z.cells.size=2):AH prog 113 83 82 2 a z where
 nothing:=WA
 tail:=Ww
 room:=λb n c i B m dB cs C w D F d q H e h k K L l o p j t fM u Q R W X=>Wy b n c i B m dB cs C w D F d q H e h k K L l o p j t fM u Q R W X
 grow:=λb n c i B m dB cs C w D F f d g r e h k l o p=>WC b n c i B m dB cs C w D F f d a z s x y A g r e h k l o p
theorem Vo(G:cK)(n:Nat)(s:List Loop)(i:Int)(v:List Loop)(c d:Nat){r:List Loop}(h:vY n s i v=aa r):
  b' G 113 [aK 82 c 2 aw s,aK 82 d 2 aw v] [ms 0 c 2 aw s,Y i,ms 1 d 2 aw v] (ms 0 (c+1) 2 aw r) [aK 82 (c+1) 2 aw r,aK 82 d 2 aw v]:=by
 unfold vY at h;refine iN (aj ((0:Int)<=i)) (λe=>?_) λe=>?_
 ·have h:=gA e h;exact ix h
 have h:=gS e h;refine iN (aj (i<=(s.length:Int))) (λl=>?_) λl=>?_
 ·have h:=gA l h;exact ix h
 have h:=gS l h;have x:=e3 e;have y:=e3 l;obtain⟨k,rfl⟩: ∃k:Nat,i=(k:Int):=⟨i.toNat,O⟩
 simp only[Int.toNat_natCast] at h;have a:(prog.info? 82).map (λi=>(i.zero.map λz=>z.cells.size,i.size,Nat.ble i.bytes 140000))=aa (aa 2,2,ab):=J
 cases m:prog.info? 82 with
 |none=>rw[m] at a;cases a
 |some q=>
  rw[m] at a;simp only[gP,Option.some.injEq,Prod.mk.injEq] at a;obtain⟨b,p,w⟩:=a;cases o:q.zero with
  |none=>rw[o] at b;cases b
  |some z=>
   rw[o] at b;simp only[gP,Option.some.injEq] at b;refine PB ⟨_,func113,J,J⟩ (XY m o p b) underlying83 m o b p underlying82 (by decide) (fb w) aw (λ_=>rfl) s v r k c d O h
abbrev ai':List dw:=[⟨86,2,[]⟩]
theorem UR(G:cK)(n:Nat)(c s:List Loop)(i:Int)(v:List Loop)(a b:Nat){r:List Loop}(e:(c.map aw).length=(s.map aw).length)(h:vY n s i v=aa r):
  b' G 113 [aK 82 a 2 aw s,aK 82 b 2 aw v] [ms 0 a 2 aw c,Y i,ms 1 b 2 aw v] (ms 0 (a+1) 2 aw r) [aK 82 (a+1) 2 aw r,aK 82 b 2 aw v]:=by have:=Vo G n s i v a b h;show hY _ _ _ _ [V.bf 0 a 2 0 (c.map aw).length,Y i,ms 1 b 2 aw v] _ _;rw[e];exact this
theorem UB(G:cK)(n:Nat)(c:List Loop)(d:List Loop)(b:FuncId)(o:Loop->Loop->Option Bool)(i: ∀(p:Loop) (q:Loop) r,o p q=aa r->bm G b [V.agg (iy p),V.agg (iy q)] (aW r)){r:Bool}(h:Km n c d o=aa r):bm G 177 [aI aw c,aI aw d,V.fn b []] (aW r):=by
 refine bE aT func177 rfl λw X a=>ad a (ao (ag a [aN aw c,aN aw d] (aD h (λs h=>?_) λs h=>?_)))
 ·cases h;exact ad a aF
 refine aA (ao (ag a [aN aw c] (bu (cv h (λx=>b2 [(1,aI aw d),(2,V.fn b []),(15,aI aw c),(16,Y (c.length:Int)),(17,Y x)]) aV λe D h=>ad a (da h (λy h=>?_) λy h=>?_)))))
 ·refine aA (bH (au h λA k h=>ag a [a8 aw k,.z (.nat 20)] (au h λB l h=>ag a [a8 aw l,.z (.nat 21)] (au h λF m h=>ag a [ay (i A B _ m)] (aD h (λC h=>?_) λC h=>aA (bs a (az h)))))));cases h;exact ad a aF
 cases h;exact bF (ad a aF)
theorem Ka(G:cK)(n:Nat)(c:List aE)(d:List aE)(b:FuncId)(o:aE->aE->Option Bool)(i: ∀(p:aE) (q:aE) r,o p q=aa r->bm G b [V.agg (cF p),V.agg (cF q)] (aW r)){r:Bool}(h:yQ n c d o=aa r):bm G 179 [aI aq c,aI aq d,V.fn b []] (aW r):=by
 refine bE aT func179 rfl λw X a=>ad a (ao (ag a [aN aq c,aN aq d] (aD h (λs h=>?_) λs h=>?_)))
 ·cases h;exact ad a aF
 refine aA (ao (ag a [aN aq c] (bu (cv h (λx=>b2 [(1,aI aq d),(2,V.fn b []),(15,aI aq c),(16,Y (c.length:Int)),(17,Y x)]) aV λe D h=>ad a (da h (λy h=>?_) λy h=>?_)))))
 ·refine aA (bH (au h λA k h=>ag a [a8 aq k,.z (.nat 20)] (au h λB l h=>ag a [a8 aq l,.z (.nat 21)] (au h λF m h=>ag a [ay (i A B _ m)] (aD h (λC h=>?_) λC h=>aA (bs a (az h)))))));cases h;exact ad a aF
 cases h;exact bF (ad a aF)
theorem v6(G:cK)(n:Nat)(a:aE)(b:aE){r:Bool}(h:oC n a b=aa r):bm G 180 [V.agg (cF a),V.agg (cF b)] (aW r):=bE aT func180 rfl λw X d=>ag d [.z (.b (ab)),.z (.b (ab))] (bZ h (λi=>b2 [(4,aW i)]) (λk h=>au h λl c h=>bh h (λe h=>aG d ([ay (Lm G n a.aM b.aM c)]++aR 6 e) (az h)) λe h=>aG d ([ay (Lm G n a.aM b.aM c)]++aX 6 e) (az h)) λm h=>av h▸aF)
theorem VR(G:cK)(n:Nat)(x:Loop)(y:Loop){r:Bool}(h:zl n x y=aa r):bm G 178 [V.agg (iy x),V.agg (iy y)] (aW r):=bE aT func178 rfl λw X i=>ag i [.z (.b (ab)),.z (.b (ab))] (bZ h (λl=>b2 [(4,aW l)]) (λm h=>au h λo d h=>bh h (λe h=>aG i ([ay (Ka G n x.bq y.bq 180 (λa c=>oC n a c) (λa c r h=>v6 G n a c h) d)]++aR 6 e) (az h)) λe h=>au h λp k h=>aG i ([ay (Ka G n x.bq y.bq 180 (λa c=>oC n a c) (λa c r h=>v6 G n a c h) d)]++aX 5 e++[ay (Ka G n x.aL y.aL 180 (λa c=>oC n a c) (λa c r h=>v6 G n a c h) k),aY e]) (az h)) λq h=>av h▸aF)
theorem Xl{a}{b}{r}(h:Az n a b=aa r):bm G 114 [aI aw a,aI aw b] (aW r):=bE aT func114 rfl λw X i=>ad i (au h λk c h=>av h▸ag i [ay (UB G n a b 178 (λd e=>zl n d e) (λd e r h=>VR G n d e h) c)] aF)
theorem Yy{p}{q}{r}(h:A7 n p q=aa r):bm G 117 [aI ai p,aI ai q] (aW r):=bE aT func117 rfl λw X b=>ad b (au h λc a h=>av h▸ag b [ay (Vq G a)] aF)
theorem Vp{s}{i}{j}(m:Nat){r}(h:te n s i j=aa r):
  b' G 118 [aK 86 m 2 an s] [ms 0 m 2 an s,Y i,Y j] (ms 0 m 2 an (r.2.take r.1)) [aK 86 m 2 an r.2]:=by
 refine cj aT func118 rfl λw X y c A=>ad c (iN (aj ((0:Int)<=i)) (λo=>?_) λo=>?_)
 ·have h:=gA o h;exact ix h
 have h:=gS o h;refine iN (aj (i<=j)) (λp=>?_) λp=>?_
 ·have h:=gA p h;exact ix h
 have h:=gS p h;refine iN (aj (j<=(s.length:Int))) (λq=>?_) λq=>?_
 ·have h:=gA q h;exact ix h
 have h:=gS q h;have b:=e3 o;have d:=e3 p;have a:=e3 q;refine ag c [aN an s,ar (Ra an s b d a)] (ao (ad c (aD h (λx h=>av h▸ag c [.z (.at 0),.z (.len 6 (bk an (s.take s.length)).length),ar (afK an s)] b0) λx h=>?_)));have e:i<j:=by have:=of_decide_eq_false x;omega
 refine aA (ag c [aN an s] ?_);by_cases l:j<(s.length:Int)
 ·exact av h▸ao (bK c bJ [.z (.nat 0),.z (.nat i.toNat),.z (.nat j.toNat),.z (.nat (s.length-j.toNat)),.z (.rows (bk an (jZ s i j))),ar (C4 an s b d a),ar (GQ an s (O:0<=j) l),ar (Ua an s b d a),ar (T' an s b d a),ar (Ls an s i j)] (ag c [.z (.nat (dK s i j)),.z (.int 1),.z (.nat (dK s i j)),.z (.nat (s.length-(dK s i j))),.z (.rows (bk an (hf s i j (⟨[],[]⟩:Part)))),ar (bd (dK s i j)),ar (C5 an s (jZ s i j) (k:=2) (by decide) b e a (B3 s b d a) rfl),ar (agl an s (⟨[],[]⟩:Part) b e a)] (ag c [.z (.at 0),.z (.len 6 (bk an ((hf s i j (⟨[],[]⟩:Part)).take (dK s i j))).length),ar (C6 an s (⟨[],[]⟩:Part) b e a)] b0)))
 exact av h▸ao (bK c bJ [.z (.nat 0),.z (.nat i.toNat),.z (.int 0),.z (.int 0),ar (C4 an s b d a),ar (Q' an s b d a l)] (ag c [.z (.nat (i.toNat)),.z (.int 1),.z (.nat (i.toNat)),.z (.nat (s.length-(i.toNat))),.z (.rows (bk an (hf s i j (⟨[],[]⟩:Part)))),ar (bd (i.toNat)),ar (C5 an s s (k:=2) (by decide) b e a rfl (C7 s a l)),ar (T9 an s (⟨[],[]⟩:Part) b e a l)] (ag c [.z (.at 0),.z (.len 6 (bk an ((hf s i j (⟨[],[]⟩:Part)).take (dK s i j))).length),ar ((C7 s a l).trans (C6 an s (⟨[],[]⟩:Part) b e a))] b0)))
theorem aes{R:Type}{l:List R}{i:Int}{x y:R}(h:aB l i=aa x)(k:aB l (wr (i+1))=aa y):0+bt (wr (i+1))≠0+bt i:=by have b:=(kc h).1;have a:=(kc k).1;have e:wr (i+1)=_:=IntKind.wrap_i64 (i+1);rw[e] at a⊢;omega
def DJ:List dw:=[⟨86,2,[]⟩]
theorem VH{s}{r}(h:E5 n s=aa r):b' G 120 [] [aI ax s] (ms 0 1 9 ax r) [aK 118 1 9 ax r]:=cj aT func120 rfl λw X e a k=>ad a (ao (ao (bh h (λd h=>aG a [.z (.b al),ar (aja ax d)] (j8 (b:=al) J (λi=>br (i.symm.trans (bd al)) (by decide)) λ_=>(aA (au h λl c h=>av h▸ag a [.z (.nat 20),cq (cU ax c),b4 9 gT [],b4 9 gT s] (fa a 2 20))))) λd h=>ix h)))
open Go.RowKit Go.Lib in
set_option maxHeartbeats 4000000 in
set_option maxRecDepth 100000 in
theorem Wx(b n c i d m s:Nat)(l vs:List Value)(w:World)(aL:i<n)(hm:0<m)(L:n+m<=c)(V:c<=9223372036854775807)(y:d≠b)
  (Q:l.length=n*2) (R:vs.length=m*2)
  (X: ∀j v,l[j]? =aa v->w.cell? ⟨b,j,ak⟩=aa v) (q: ∀j,j<(n+m)*2->(w.cell? ⟨b,j,ak⟩).isSome=ab) (z: ∀j,w.frozen? ⟨b,j,ak⟩=al)
  (f: ∀j v,vs[j]? =aa v->w.cell? ⟨d,j,ak⟩=aa v) (g: ∀v∈l,v.oneCell'=ab) (t: ∀v∈vs,v.oneCell'=ab)
  (Y tU:TypeId) (u E:Nat) (I:w.shape? d=aa (Y,u)) (M:w.shape? b=aa (tU,E)) (N:E≠0) (A: ∀j,w.frozen? ⟨d,j,ak⟩=al):
  Calls prog 121 #[.slice (aa ⟨b,0,ak⟩) n c,.int .i64 i,.slice (aa ⟨d,0,ak⟩) m s] w λe w'=>
   e= .returned (.slice (aa ⟨b,0,ak⟩) (n+m) c)/\w'=(w.drew.setCells b ((i+m)*2) (l.drop (i*2))).setCells b (i*2) vs:=by
 have yP: ¬((m:Int)=0):=O
 have pF: ¬((i:Int)=(n:Int)):=O
 have mJ:IntKind.i64.wrap ((i:Int)+(m:Int))=(i:Int)+(m:Int):=by rw[IntKind.wrap_i64];omega
 have lb:(0:Int)<=(i:Int)+(m:Int):=O
 have kM:i<=n:=O
 have JQ:((i:Int)+(m:Int)).toNat=i+m:=O
 have vz: ¬(c=i+m):=O
 have yD:(i:Int)<=(n:Int)+(m:Int):=O
 have agU: ¬(c=i):=O
 have P: ∀S T,(callFunc 185 #[.slice (aa ⟨d,0,ak⟩) m s,.slice (aa ⟨b,(i+m)*2,ak⟩) S T]).run prog w= .ok (.value (.bool al)) w:=λS T=>by
  rw[run_callFunc_extern func185 J J J (e:=Extern.SlicesOverlaps.overlaps #[30,30] #[4]) J,
   Lib.run_overlaps_apart w 30 4 86 underlying30 2 sizeOf86 ⟨d,0,ak⟩ ⟨b,(i+m)*2,ak⟩ m s S T y Y tU u E I M N (A 0) (A u)]
  rfl
 have B:(l.drop (i*2)).length=(n-i)*2:=by rw[fN,Q];omega
 have C:(prog.info? 86).map (·.size)=aa 2:=J
 have p: ∀ty r km,(Builtin.copy_ #[30,30] ty #[.slice (aa ⟨b,(i+m)*2,ak⟩) (n+m-(i+m)) r,.slice (aa ⟨b,i*2,ak⟩) (n+m-i) km]).run prog w.drew= .ok (goInt ((n-i:Nat):Int)) (w.drew.setCells b ((i+m)*2) (l.drop (i*2))):=λty r km=>
  rj w.drew 30 30 ty 86 2 b ((i+m)*2) (n+m-(i+m)) r ⟨b,i*2,ak⟩ (n+m-i) km (n-i) (l.drop (i*2)) underlying30 C (by simp only[Nat.min_def];split<;>omega) B
   (λj v o=>by rw[Addr.add_lit];exact X (i*2+j) v (by rwa [fv] at o))
   (λj o=>q _ O) (λj o=>z _) λv bR=>g v (ft bR)
 obtain⟨D,a⟩: ∃D,D=w.drew.setCells b ((i+m)*2) (l.drop (i*2)):=⟨_,rfl⟩
 have F: ∀k,k<(n+m)*2->(D.cell? ⟨b,k,ak⟩).isSome=ab:=λk hk=>by
  rw[a];exact m7 b (l.drop (i*2)) ((i+m)*2) w.drew (λj o=>q _ (by rw[B] at o;omega)) k (q k hk)
 have H: ∀(W:World),(∀x,W.cell? x=D.cell? x)->(∀x,W.frozen? x=D.frozen? x)-> ∀ty r,(Builtin.copy_ #[30,30] ty #[.slice (aa ⟨b,i*2,ak⟩) (n+m-i) r,.slice (aa ⟨d,0,ak⟩) m s]).run prog W= .ok (goInt m) (W.setCells b (i*2) vs):=λW K U ty r=>
  rj W 30 30 ty 86 2 b (i*2) (n+m-i) r ⟨d,0,ak⟩ m s m vs underlying30 C (by simp only[Nat.min_def];split<;>omega) R
   (λj v o=>by
    rw[Addr.add_lit,dy,K,a,World.cell?_setCells_out b _ _ _ _ λh _=>br h y];exact f j v o)
   (λj o=>by rw[K];exact F _ O) (λj o=>by rw[U,a,World.frozen?_setCells];exact z _) t
 rw[<-a] at p
 go_enter func121,Tryz.ntmps121
 go_wp2_with (simp only[P])
 go_region_law (refine DN rfl _ _ 30 30 rfl _ _ (by simp[Act.eval,Act.put]) (by simp[Act.eval,Act.put]) (p _ _ _) ?_)
 go_wp2_with (at_builtin;refine vn _ rfl _ _ 30 30 rfl _ _ rfl rfl (H _ (λ_=>rfl) (λ_=>rfl) _ _) ?_)
 go_ret
 first|exact⟨rfl,rfl⟩|exact⟨rfl,by rw[a]⟩
open Go.RowKit Go.Lib in
set_option maxHeartbeats 4000000 in
set_option maxRecDepth 100000 in
theorem WB(b n c i y m S:Nat)(k l:List Value)(w:World)(aL:i<n)(hm:0<m)(ahz:n<=c)(C:c<n+m)(D:TypeInfo)(z:Value)(Q:prog.info? 86=aa D)(T:D.zero=aa z)(R:D.size=2)(U:z.cells.size=2)(hle:n+m<=1000000000)(X:(n+m)*D.bytes<=140737488355328)
  (V:k.length=n*2) (f:l.length=m*2)
  (F: ∀j v,k[j]? =aa v->w.cell? ⟨b,j,ak⟩=aa v)
  (g: ∀j v,l[j]? =aa v->w.cell? ⟨y,j,ak⟩=aa v) (Y: ∀v∈k,v.oneCell'=ab) (py: ∀v∈l,v.oneCell'=ab):
  Calls prog 121 #[.slice (aa ⟨b,0,ak⟩) n c,.int .i64 i,.slice (aa ⟨y,0,ak⟩) m S] w λe w'=>
   e= .returned (.slice (aa ⟨w.heap.size,0,ak⟩) (n+m) (grownCap w (n+m) c 86))/\
   w'=(((w.alloc (.cells ((k.take (i*2)).toArray++eh z.cells (n+m-i)++eh z.cells (grownCap w (n+m) c 86-(n+m))) 86)).drew.setCells w.heap.size (i*2) l).drew).setCells w.heap.size ((i+m)*2) (k.drop (i*2)):=by
 have yP: ¬((m:Int)=0):=O
 have pF: ¬((i:Int)=(n:Int)):=O
 have aif:(c:Int)<(n:Int)+(m:Int):=O
 have u:(prog.info? 86).map (·.size)=aa 2:=by rw[Q];simp[R]
 have Jx:b<w.heap.size:=block_lt_of_cell (F 0 _ (bC O));have JU:y<w.heap.size:=block_lt_of_cell (g 0 _ (bC O));have E:(n:Int)+(m:Int)-(i:Int)=((n+m-i:Nat):Int):=O
 have H:i+(n+m-i)=n+m:=O
 have A:(Builtin.firstCells D.size i (.slice (aa ⟨b,0,ak⟩) i c)).run prog w.drew= .ok (k.take (i*2)).toArray w.drew:=by
  rw[R];exact run_firstCells_some w.drew 2 i ⟨b,0,ak⟩ i c (k.take (i*2)) (by rw[c6];omega) (λj v d=>by
   rw[Addr.add_lit,dy];rw[fs] at d;split at d
   ·exact F j v d
   cases d)
 have s: ∀ty,(Builtin.append_ #[30,3] ty #[.slice (aa ⟨b,0,ak⟩) i c,.int .i64 ((n:Int)+(m:Int)-(i:Int))]).run prog w=
   .ok (.slice (aa ⟨w.heap.size,0,ak⟩) (n+m) (grownCap w (n+m) c 86)) (w.drew.alloc (.cells ((k.take (i*2)).toArray++eh z.cells (n+m-i)++eh z.cells (grownCap w (n+m) c 86-(n+m))) 86)):=λty=>by
  have h:=Lib.run_append_grow_zeros w 30 3 ty 86 D z .i64 .i64 underlying30 underlying3 Q T (aa ⟨b,0,ak⟩) i c (k.take (i*2)) A (n+m-i) O O O O (by
   have:=dQ D.bytes (O:n+m-i<=n+m);omega) (by rw[H];exact growslice_fits C X)
  rw[H] at h;rw[E];exact h
 obtain⟨G,P⟩: ∃G,G=grownCap w (n+m) c 86:=⟨_,rfl⟩
 obtain⟨a,p⟩: ∃a:Array Value,a=(k.take (i*2)).toArray++eh z.cells (n+m-i)++eh z.cells (G-(n+m)):=⟨_,rfl⟩
 rw[<-P] at s⊢;rw[<-p] at s⊢;have oG:(n+m)*2<=a.size:=by
  rw[p];simp[eh,U];omega
 obtain⟨q,o⟩: ∃q,q=w.drew.alloc (.cells a 86):=⟨_,rfl⟩
 rw[<-o] at s;have gd: ∀j,j<(n+m)*2->(q.cell? ⟨w.heap.size,j,ak⟩).isSome=ab:=λj d=>by
  rw[o,World.cell?_alloc_at (w:=w.drew) a _ w.heap.size j rfl,hT O];rfl
 have I: ∀j,q.frozen? ⟨w.heap.size,j,ak⟩=al:=λj=>by rw[o];exact World.frozen?_alloc_at (w:=w.drew) a _ w.heap.size j rfl
 have Jr: ∀j v,w.cell? ⟨b,j,ak⟩=aa v->q.cell? ⟨b,j,ak⟩=aa v:=λj v h=>by rw[o,World.cell?_alloc_past (w:=w.drew) _ b j Jx];exact h
 have Js: ∀j v,w.cell? ⟨y,j,ak⟩=aa v->q.cell? ⟨y,j,ak⟩=aa v:=λj v h=>by rw[o,World.cell?_alloc_past (w:=w.drew) _ y j JU];exact h
 have M: ∀(W:World),(∀x,W.cell? x=q.cell? x)->(∀x,W.frozen? x=q.frozen? x)-> ∀ty K,(Builtin.copy_ #[30,30] ty #[.slice (aa ⟨w.heap.size,i*2,ak⟩) (n+m-i) K,.slice (aa ⟨y,0,ak⟩) m S]).run prog W= .ok (goInt m) (W.setCells w.heap.size (i*2) l):=λW r L ty K=>
  rj W 30 30 ty 86 2 w.heap.size (i*2) (n+m-i) K ⟨y,0,ak⟩ m S m l underlying30 u (by simp only[Nat.min_def];split<;>omega) f
   (λj v d=>by rw[Addr.add_lit,dy,r];exact Js _ v (g j v d))
   (λj d=>by rw[r];exact gd _ O) (λj d=>by rw[L];exact I _) py
 have Jn:n+m<=G:=by rw[P];exact grownCap_ge w _ _ _
 have agJ:G<=9223372036854775807:=by
  have:=grownCap_le_maxLen w (n+m) c 86 (by unfold maxLen;omega);rw[<-P] at this;unfold maxLen at this;omega
 have agK: ¬(G=i):=O
 have agL: ¬(G=i+m):=O
 have agX: ¬(c=i):=O
 have Jv:b≠w.heap.size:=O
 have N:(k.drop (i*2)).length=(n-i)*2:=by rw[fN,V];omega
 have B: ∀(W:World),(∀x,W.cell? x=(q.setCells w.heap.size (i*2) l).cell? x)->(∀x,W.frozen? x=(q.setCells w.heap.size (i*2) l).frozen? x)-> ∀ty K km,(Builtin.copy_ #[30,30] ty #[.slice (aa ⟨w.heap.size,(i+m)*2,ak⟩) (n+m-(i+m)) K,.slice (aa ⟨b,i*2,ak⟩) (n-i) km]).run prog W= .ok (goInt ((n-i:Nat):Int)) (W.setCells w.heap.size ((i+m)*2) (k.drop (i*2))):=λW r L ty K km=>
  rj W 30 30 ty 86 2 w.heap.size ((i+m)*2) (n+m-(i+m)) K ⟨b,i*2,ak⟩ (n-i) km (n-i) (k.drop (i*2)) underlying30 u (by simp only[Nat.min_def];split<;>omega) N
   (λj v d=>by
    rw[Addr.add_lit,r,World.cell?_setCells_out _ _ _ _ _ λh _=>br h Jv];exact Jr _ v (F (i*2+j) v (by rwa [fv] at d)))
   (λj d=>by rw[r];exact m7 w.heap.size l (i*2) q (λt fo=>gd _ (by rw[f] at fo;omega)) _ (gd _ (by rw[N] at d;omega)))
   (λj d=>by rw[L,World.frozen?_setCells];exact I _) λv bR=>Y v (ft bR)
 subst o;have Jl: ∀x,((w.alloc (.cells a 86)).drew).cell? x=(w.drew.alloc (.cells a 86)).cell? x:=λx=>rfl;have Jm: ∀x,((w.alloc (.cells a 86)).drew).frozen? x=(w.drew.alloc (.cells a 86)).frozen? x:=λx=>rfl;have sP: ∀x,(((w.alloc (.cells a 86)).drew.setCells w.heap.size (i*2) l).drew).cell? x=((w.drew.alloc (.cells a 86)).setCells w.heap.size (i*2) l).cell? x:=λx=>rfl;have sQ: ∀x,(((w.alloc (.cells a 86)).drew.setCells w.heap.size (i*2) l).drew).frozen? x=((w.drew.alloc (.cells a 86)).setCells w.heap.size (i*2) l).frozen? x:=λx=>rfl;have mJ:IntKind.i64.wrap ((i:Int)+(m:Int))=(i:Int)+(m:Int):=by rw[IntKind.wrap_i64];omega
 have lb:(0:Int)<=(i:Int)+(m:Int):=O
 have kM:i<=n:=O
 have JQ:((i:Int)+(m:Int)).toNat=i+m:=O
 have yD:(i:Int)<=(n:Int):=O
 clear E H A p P oG
 go_enter func121,Tryz.ntmps121
 go_wp2_with (first
  |(at_builtin;refine Lib.wpList_append_run _ rfl _ _ _ _ rfl _ _ rfl rfl _ _ (s _) ?_)
  |(at_builtin;refine vn _ rfl _ _ 30 30 rfl _ _ rfl rfl (M _ Jl Jm _ _) ?_)
  |(at_builtin;refine vn _ rfl _ _ 30 30 rfl _ _ rfl rfl (B _ (λ_=>rfl) (λ_=>rfl) _ _ _) ?_))
 go_region_law (refine DN rfl _ _ 30 30 rfl (.slice (aa ⟨w.heap.size,(i+m)*2,ak⟩) (n+m-(i+m)) (G-(i+m))) (.slice (aa ⟨b,i*2,ak⟩) (n-i) (c-i)) (by simp[Act.eval,Act.put]) (by simp[Act.eval,Act.put]) (B _ sP sQ 3 (G-(i+m)) (c-i)) ?_)
 go_wp2
 go_ret
 exact⟨rfl,rfl⟩
open Go.RowKit Go.Lib in
set_option maxHeartbeats 4000000 in
set_option maxRecDepth 100000 in
theorem Wz(b d:Option Addr)(n c i h:Nat)(w:World)(p:i<=n)(q:n<=c)(r:c<=9223372036854775807):Calls prog 121 #[.slice b n c,.int .i64 i,.slice d 0 h] w λe k=>e= .returned (.slice b n c)/\k=w:=by
 have l:(i:Int)<=(n:Int):=O
 go_enter func121,Tryz.ntmps121
 cases b with
 |none=>
  go_wp2
  go_ret
  exact⟨rfl,rfl⟩
 |some a=>
  obtain⟨s,x,m⟩:=a;by_cases o:c=i
  ·go_wp2
   go_ret
   exact⟨rfl,rfl⟩
  go_wp2
  go_ret
  exact⟨rfl,rfl⟩
open Go.RowKit Go.Lib in
set_option maxHeartbeats 4000000 in
set_option maxRecDepth 100000 in
theorem Wv(b d:Option Addr)(n c m i:Nat)(w:World)(k:Value)(w':World)(r:0<m)(s:n<=c)(x:c<=9223372036854775807)(h:(Builtin.append_ #[30,30] 30 #[.slice b n c,.slice d m i]).run prog w= .ok k w'):
  Calls prog 121 #[.slice b n c,.int .i64 n,.slice d m i] w λe l=>e= .returned k/\l=w':=by
 have o: ¬((m:Int)=0):=O
 go_enter func121,Tryz.ntmps121
 cases b with
 |none=>
  go_wp2_with (at_builtin;refine Lib.wpList_append_run _ rfl _ _ _ _ rfl _ _ rfl rfl _ _ h ?_)
  go_ret
  exact⟨rfl,rfl⟩
 |some a=>
  obtain⟨y,z,p⟩:=a;by_cases q:c=n
  ·go_wp2_with (at_builtin;refine Lib.wpList_append_run _ rfl _ _ _ _ rfl _ _ rfl rfl _ _ h ?_)
   go_ret
   exact⟨rfl,rfl⟩
  go_wp2_with (at_builtin;refine Lib.wpList_append_run _ rfl _ _ _ _ rfl _ _ rfl rfl _ _ h ?_)
  go_ret
  exact⟨rfl,rfl⟩
theorem XX(s:prog.info? 86=aa a)(x:a.zero=aa z)(y:a.size=2)(A:z.cells.size=2):AH prog 121 30 86 2 a z where
 nothing:=Wz
 tail:=Wv
 room:=λb n c i B m dB cs C w D F d q H e h k K L l o p j t fM u Q R W X=>Wx b n c i B m dB cs C w D F d q H e h k K L l o p j t fM u Q R W X
 grow:=λb n c i B m dB cs C w D F f d g r e h k l o p=>WB b n c i B m dB cs C w D F f d a z s x y A g r e h k l o p
theorem KX(G:cK)(n:Nat)(s:List Part)(i:Int)(v:List Part)(c d:Nat){r:List Part}(h:vX n s i v=aa r):
  b' G 121 [aK 86 c 2 an s,aK 86 d 2 an v] [ms 0 c 2 an s,Y i,ms 1 d 2 an v] (ms 0 (c+1) 2 an r) [aK 86 (c+1) 2 an r,aK 86 d 2 an v]:=by
 unfold vX at h;refine iN (aj ((0:Int)<=i)) (λe=>?_) λe=>?_
 ·have h:=gA e h;exact ix h
 have h:=gS e h;refine iN (aj (i<=(s.length:Int))) (λl=>?_) λl=>?_
 ·have h:=gA l h;exact ix h
 have h:=gS l h;have x:=e3 e;have y:=e3 l;obtain⟨k,rfl⟩: ∃k:Nat,i=(k:Int):=⟨i.toNat,O⟩
 simp only[Int.toNat_natCast] at h;have a:(prog.info? 86).map (λi=>(i.zero.map λz=>z.cells.size,i.size,Nat.ble i.bytes 140000))=aa (aa 2,2,ab):=J
 cases m:prog.info? 86 with
 |none=>rw[m] at a;cases a
 |some q=>
  rw[m] at a;simp only[gP,Option.some.injEq,Prod.mk.injEq] at a;obtain⟨b,p,w⟩:=a;cases o:q.zero with
  |none=>rw[o] at b;cases b
  |some z=>
   rw[o] at b;simp only[gP,Option.some.injEq] at b;refine PB ⟨_,func121,J,J⟩ (XX m o p b) underlying30 m o b p underlying86 (by decide) (fb w) an (λ_=>rfl) s v r k c d O h
theorem TO{a}{r}(h:px n a=aa r):b' G 184 [aK 92 1 2 aq a] [ms 0 1 2 aq a] (ms 1 1 2 aq r) [aK 92 1 2 aq a,aK 92 1 2 aq r]:=by refine cj aT func184 rfl λw X m b B=>ad b (ad b (ao (ag b [aN aq a] (bu (aQ b [.grow 3 20 92] (cT h (λe l=>bx [(3,ms 20 l 2 aq e.1),(6,ms 0 1 2 aq a),(7,Y (a.length:Int)),(8,Y e.2)] [(0,aK 92 1 2 aq a),(20,aK 92 l 2 aq e.1)] [0,20]) 1 (aV) ?_))))));rintro d ⟨o,p⟩ q h;exact ad b (da h (λs h=>aA (bH (au h λx c h=>ag b [ar (bM aq c),bD aq c,.z (.nat 21)] (bU h λy i A k h=>aG b [ay (KL G n x i),.z (.int 0),cq (cU aq k),b4 2 f' o,b4 2 f' [y]] (bs b ⟨(A,wr (p+1)),(q+1),h,aV⟩))))) λs h=>av h▸bF (ad b (aQ b [.bp 20 1 [2] []] b0)))
theorem Wo{nest}{r}(h:rl n nest=aa r):b' G 119 [E.aC cg 1 1 (nest.map aw) []] [ms 0 1 2 aw nest] (ms 1 1 2 aw r) [E.aC cg 1 1 (nest.map aw) [],E.aC cg 1 1 (r.map aw) []]:=by refine cj aT func119 rfl λw X x b D=>ad b (ad b (ao (ag b [aN aw nest] (bu (aQ b [.grow 3 20 82,.b1 20 cg 1] (cT h (λl s=>bx [(3,ms 20 s 2 aw l.1),(6,ms 0 1 2 aw nest),(7,Y (nest.length:Int)),(8,Y l.2)] [(0,E.aC cg 1 1 (nest.map aw) []),(20,E.aC cg 1 s (l.1.map aw) [])] [0,20]) 1 (aV) ?_))))));rintro k ⟨d,m⟩ A h;exact ad b (da h (λB h=>aA (bH (ao (au h λe a h=>cV b [.cZ 0 25 (0+bt m) 0 (aw e),.cZ 0 26 (0+bt m) 1 (aw e),.ec 25,.ec 26] (a2 (bP aw a) (bP aw a)) (aG b [ar (bM aw a),bD aw a,.z (.nat 21)] (cX h λi o C p q c h=>bK b bJ [a' [25] [22] (TO G o),a' [26] [23] (TO G p),.z (.lt 24 cg 1),.z (.rows (bk aw (d++[(⟨[],[]⟩:Loop)]))),ar (bd (U cg 1)),ar (lF aw (⟨[],[]⟩:Loop) c),b4 2 fy d,b4 2 fy [(⟨[],[]⟩:Loop)]] (cV b [.b1 22 cg 3,.cr 20 22 (aw (⟨[],[]⟩:Loop)) (bk aw (d++[(⟨i,[]⟩:Loop)])),.b1 23 cg 3,.cr 20 23 (aw (⟨i,[]⟩:Loop)) (q.map aw),.len 3 (q.map aw).length] (a9 (bd (i.map aq).length) (bd cg) (hc aw d (⟨[],[]⟩:Loop)) (np aw d (ph:=(⟨[],[]⟩:Loop)) (y:=(⟨i,[]⟩:Loop)) rfl) (bd (C.map aq).length) (bd cg) (hc aw d (⟨i,[]⟩:Loop)) (me aw (ph:=(⟨i,[]⟩:Loop)) c rfl) (lG aw (⟨[],[]⟩:Loop) c)) (cV b [.b1 25 cg 3,.b1 26 cg 3,.cr 0 26 (aw e) (nest.map aw),.cr 0 25 (aw e) (nest.map aw)] (fI (bd (e.aL.map aq).length) (bd cg) (bP aw a) (jn aw a rfl) (bd (e.bq.map aq).length) (bd cg) (bP aw a) (jn aw a rfl)) (bs b ⟨(q,wr (m+1)),(A+1),h,aV⟩))))))))) λB h=>av h▸bF (ad b (aQ b [.bp 20 1 [2,3] []] b0)))
theorem Wl{p}{r}(h:rk n p=aa r):b' G 122 [E.aC cg 1 1 (p.nest.map aw) [],aK 118 1 9 ax p.body] [V.agg [ms 0 1 2 aw p.nest,ms 1 1 9 ax p.body]] (V.agg [ms 2 1 2 aw r.nest,ms 3 1 9 ax r.body]) [E.aC cg 1 1 (p.nest.map aw) [],aK 118 1 9 ax p.body,E.aC cg 1 1 (r.nest.map aw) [],aK 118 1 9 ax r.body]:=by refine cj aT func122 rfl λw X o a C=>ag a [.z (.nat 25),.z (.nat 20)] (au h λl d h=>ag a [a' [0] [21] (Wo G d),.z (.nat 22)] (ao (ag a [aN ax p.body] (bu (aQ a [.ch 22 1 23 118] (cT h (λe m=>bx [(2,V.ref 20 0),(3,V.ref 22 0),(11,ms 1 1 9 ax p.body),(12,Y (p.body.length:Int)),(13,Y e.2)] [(0,E.aC cg 1 1 (p.nest.map aw) []),(1,aK 118 1 9 ax p.body),(20,E.cells [bw,bw]),(21,E.aC cg 1 1 (l.map aw) []),(22,E.cells [ms 21 1 2 aw l,ms 23 m 9 ax e.1]),(23,aK 118 m 9 ax e.1)] [0,1,20,21,22,23,25]) 1 (aV) ?_))))));rintro c ⟨q,s⟩ x h;exact ad a (da h (λy h=>aA (bH (au h λD b h=>ag a [ar (bM ax b),bD ax b,.z (.nat 24)] (bU h λA i B k h=>bK a bJ [ay (L' G i),.z (.int 0),cq (cU ax k),b4 9 gT q,b4 9 gT [A]] (bs a ⟨(B,wr (s+1)),(x+1),h,aV⟩))))) λy h=>av h▸bF (ad a (aQ a [.bp 21 2 [] [20,22]] (aQ a [.bp 23 3 [] [20,22]] b0))))
theorem TG{p}{r}(h:DI n p=aa r):bm G 244 [V.agg (cC p)] (Y r):=by refine bE aT func244 rfl λw X a=>ag a [.z (.b (ab))] (ad a (ao (ag a [aN a6 p.a7] (bu (cv h (λi=>b2 [(3,Y i.1),(7,aI a6 p.a7),(8,Y (p.a7.length:Int)),(9,Y i.2)]) aV ?_)))));rintro c ⟨l,m⟩ h;exact ad a (da h (λk h=>aA (bH (au h λo d h=>ag a [a8 a6 d,.z (.nat 20)] (au h λq e h=>aG a [ay (K9 G e)] (bs a (az h)))))) λk h=>av h▸bF (ad a aF))
theorem TB{t}{part}{r}(h:yV n t part=aa r):b' G 188 [] [V.aU (eC t),Y part] (V.bY [ms 0 1 1 bO r.1,ms 1 1 1 bO r.2]) [aK 4 1 1 bO r.1,aK 4 1 1 bO r.2]:=by
 refine cj aT func188 rfl λw X P b bV=>ad b (ao (cX h λiY Q k0 q js R h=>au h λma s h=>bK b bJ [ay (TG G Q),.z (.nat 20),cq (lo bO q),ar (jE q).1,ay (TG G R),.z (.nat 21),cq (lo bO s),ar (jE s).1] (ao (ag b [aN cJ t.list] (bu (Cy (γ:=Nat×Nat) h (λa d=>bx [(0,V.aU (eC t)),(1,Y part),(6,ms 20 d.1 1 bO a.1),(7,ms 21 d.2 1 bO a.2.1),(27,aI cJ t.list),(28,Y (t.list.length:Int)),(29,Y a.2.2)] [(20,aK 4 d.1 1 bO a.1),(21,aK 4 d.2 1 bO a.2.1)] [20,21]) (1,1) (aV) ?_))))));rintro x ⟨S,W,L⟩ ⟨N,y⟩ h;refine ad b (da h (λT h=>?_) λT h=>?_)
 ·refine aA ?_;obtain⟨f,A,h⟩:=nu h;refine mV (γ:=Nat) (j:=f) (r:=r) (λa d=>bx [(0,V.aU (eC t)),(1,Y part),(6,ms 20 d 1 bO a.1),(7,ms 21 y 1 bO a.2.1),(27,aI cJ t.list),(28,Y (t.list.length:Int)),(29,Y L)] [(20,aK 4 d 1 bO a.1),(21,aK 4 y 1 bO a.2.1),(22,E.cells [Y a.2.2.1,Y a.2.2.2.1,aI ai a.2.2.2.2])] [20,21,22]) ?_ ?_
  ·refine bu (au h λc B h=>ag b [a8 cJ B,.z (.nat 22)] (ao (ad b (aD h (λU h=>bF ⟨(S,W,c.part,c.stmt,c.db),N,h,aV⟩) λU h=>aA (ao (au h λm C h=>ag b [a8 (bj ai) C,aN ai m] (bu (cT h (λa d=>bx [(0,V.aU (eC t)),(1,Y part),(6,ms 20 d 1 bO a.1),(7,ms 21 y 1 bO W),(8,Y L),(27,aI cJ t.list),(28,Y (t.list.length:Int)),(29,Y L),(44,aI ai m),(45,Y (m.length:Int)),(46,Y a.2)] [(20,aK 4 d 1 bO a.1),(21,aK 4 y 1 bO W),(22,E.cells (jJ c))] [20,21,22]) N (aV) ?_))))))));rintro D ⟨g,u⟩ F h;exact ad b (da h (λe5 h=>aA (bH (au h λn' H h=>ag b [a8 ai H] (bU h λrS e o i h=>aG b [ar (bM bO e),bD bO e,.z (.rows (o.map bO)),.z (.len 6 (o.map bO).length),ar (str bO i),ar (cS bO i)] (bs b ⟨(o,wr (u+1)),F,h,aV⟩))))) λe5 h=>bF (cX h λqa K uj k p l h=>aG b [a8 ai K,ar (bM bO k),bD bO k,.z (.rows (p.map bO)),.z (.len 7 (p.map bO).length),ar (str bO l),ar (cS bO l)] ⟨(g,p,c.part,c.stmt,c.db),F,h,aV⟩))
  rintro⟨v,I,uq,EU,z6⟩ M h;subst A;exact bs b ⟨(v,I,wr (L+1)),(M,y),h,aV⟩
 exact av h▸bF (ad b (aQ b [.bp 20 0 [4] []] (aQ b [.bp 21 1 [5] []] b0)))
theorem T0{p}{a}{b}{r}(h:Dz n p a b=aa r):bm G 123 [V.agg (cC p),Y a,Y b] (aW r):=bE aT func123 rfl λw X e=>ag e [.z (.b (ab))] (ao (au h λj L h=>bh h (λu h=>aG e [.z (.v (V.bY [V.t T.gZ,aW j.2])),ar (zT u (oT G L))] (ao (bZ h (λF=>b2 [(1,Y a),(2,Y b),(7,V.t T.gZ),(37,aW F)]) (λnI h=>bh h (λx h=>au h λjs H h=>bh h (λB h=>au h λma Q h=>bh h (λE h=>aG e (aR 3 x++[ay (hD G H),aO x,aO x]++aR 3 B++[ay (hD G Q),aO B,aO B]++aR 4 E) (az h)) λE h=>aG e (aR 3 x++[ay (hD G H),aO x,aO x]++aR 3 B++[ay (hD G Q),aO B,aO B]++aX 4 E) (az h)) λB h=>aG e (aR 3 x++[ay (hD G H),aO x,aO x]++aX 5 B++d' 4) (az h)) λx h=>aG e (aX 5 x++d' 9) (az h)) λur h=>aD h (λS h=>av h▸ad e aF) λS h=>aA (ao (ix h))))) λu h=>aG e [.z (.v (V.bY [V.aU (eC (j.1.getD default)),aW j.2])),ar (zU u (oT G L))] (ao (bZ h (λF=>b2 [(1,Y a),(2,Y b),(7,V.aU (eC (j.1.getD default))),(37,aW F)]) (λDu h=>bh h (λy h=>au h λkp K h=>bh h (λC h=>au h λk1 R h=>bh h (λI h=>aG e (aR 3 y++[ay (hD G K),aO y,aO y]++aR 3 C++[ay (hD G R),aO C,aO C]++aR 4 I) (az h)) λI h=>aG e (aR 3 y++[ay (hD G K),aO y,aO y]++aR 3 C++[ay (hD G R),aO C,aO C]++aX 4 I) (az h)) λC h=>aG e (aR 3 y++[ay (hD G K),aO y,aO y]++aX 5 C++d' 4) (az h)) λy h=>aG e (aX 5 y++d' 9) (az h)) λo8 h=>aD h (λU h=>av h▸ad e aF) λU h=>aA (au h λi W h=>ag e [a' [] [20,21] (TB G W)] (au h λo f h=>ag e [a' [] [22,23] (TB G f)] (ao (ag e [aN bO i.1] (bu (cv h (λF=>bx [(9,ms 20 1 1 bO i.1),(10,ms 21 1 1 bO i.2),(11,ms 22 1 1 bO o.1),(12,ms 23 1 1 bO o.2),(51,Y (i.1.length:Int)),(52,Y F)] [(20,aK 4 1 1 bO i.1),(21,aK 4 1 1 bO i.2),(22,aK 4 1 1 bO o.1),(23,aK 4 1 1 bO o.2)] [20,21,22,23]) aV λg M h=>ad e (da h (λN h=>aA (bH (ad e (bZ h (λF=>bx [(9,ms 20 1 1 bO i.1),(10,ms 21 1 1 bO i.2),(11,ms 22 1 1 bO o.1),(12,ms 23 1 1 bO o.2),(51,Y (i.1.length:Int)),(52,Y M),(82,aW F)] [(20,aK 4 1 1 bO i.1),(21,aK 4 1 1 bO i.2),(22,aK 4 1 1 bO o.1),(23,aK 4 1 1 bO o.2)] [20,21,22,23]) (λais h=>au h λrR d h=>bh h (λc h=>au h λz1 q h=>bh h (λs h=>aG e ([ar (bM bO d),bD bO d]++aR 7 c++[cf,cf,cf,ar (bM bO q),cf,bD bO q,cf]++aR 4 s++[cf,aO s,cf]) (az h)) λs h=>au h λw7 D h=>aG e ([ar (bM bO d),bD bO d]++aR 7 c++[cf,cf,cf,ar (bM bO q),cf,bD bO q,cf]++aX 3 s++[ar (bM bO D),aY s,bD bO D,cf,aY s,cf]) (az h)) λc h=>au h λn' k h=>bh h (λm h=>au h λrS l h=>bh h (λA h=>aG e ([ar (bM bO d),bD bO d]++aX 3 c++[ar (bM bO k),aY c,bD bO k,aY c]++aR 3 m++[ar (bM bO l),aO m,bD bO l,aY c,aO m,aY c]++aR 3 A++[ar (bM bO l),aO A,bD bO l]++aR 8 A) (az h)) λA h=>aG e ([ar (bM bO d),bD bO d]++aX 3 c++[ar (bM bO k),aY c,bD bO k,aY c]++aR 3 m++[ar (bM bO l),aO m,bD bO l,aY c,aO m,aY c]++aX 7 A) (az h)) λm h=>aG e ([ar (bM bO d),bD bO d]++aX 3 c++[ar (bM bO k),aY c,bD bO k,aY c]++aX 4 m++[aY c,aY m,aY c]++d' 7) (az h)) λrT h=>aD h (λP h=>av h▸ad e aF) λP h=>aA (bs e (az h)))))) λN h=>av h▸bF (ad e aF))))))))))))
theorem UC{t}{a}{r}(h:m9 n t a=aa r):b' G 190 [] [V.aU (eC t),Y a] (ms 0 1 1 ai r) [aK 3 1 1 ai r]:=by refine cj aT func190 rfl λw X D b Q=>ad b (ad b (ao (au h λc q h=>ag b [a8 (bj ai) q,aN ai c] (bu (aQ b [.grow 5 20 3] (cT h (λd A=>bx [(0,V.aU (eC t)),(1,Y a),(5,ms 20 A 1 ai d.1),(15,aI ai c),(16,Y (c.length:Int)),(17,Y d.2)] [(20,aK 3 A 1 ai d.1)] [20]) 1 (aV) ?_))))));rintro m ⟨e,s⟩ i h;exact ad b (da h (λF h=>aA (bH (au h λB x h=>ag b [a8 ai x] (ad b (bH (cv h (λd=>bx [(0,V.aU (eC t)),(1,Y a),(5,ms 20 i 1 ai e),(7,Y B),(8,Y d),(15,aI ai c),(16,Y (c.length:Int)),(17,Y s)] [(20,aK 3 i 1 ai e)] [20]) aV λo C h=>ao (bZ h (λd=>bx [(0,V.aU (eC t)),(1,Y a),(5,ms 20 i 1 ai e),(7,Y B),(8,Y C),(15,aI ai c),(16,Y (c.length:Int)),(17,Y s),(35,aW d)] [(20,aK 3 i 1 ai e)] [20]) (λR h=>bh h (λp h=>aG b (aR 10 p) (az h)) λp h=>au h λH k h=>aG b (aX 6 p++[a8 ai k]++aX 4 p) (az h)) λK h=>aD h (λL h=>aA (bu (bs b (az h)))) λL h=>bF (au h λy l h=>aG b [.z (.int 0),cq (cU ai l),dE e,dE [C]] (bs b ⟨(y,wr (s+1)),(i+1),h,aV⟩))))))))) λF h=>av h▸bF (ad b (fa b 4 20)))
theorem Vr{t}{r}(h:DW n t=aa r):b' G 125 [] [V.aU (eC t)] (ms 0 1 1 bO r) [aK 4 1 1 bO r]:=by
 refine cj aT func125 rfl λw X E a bV=>ad a (au h λiY s h=>ag a [aN cJ t.list,.z (.nat 20),cq (lo bO s),ar (jE s).1] (ao (ag a [aN cJ t.list] (bu (cT h (λb i=>bx [(0,V.aU (eC t)),(3,ms 20 i 1 bO b.1),(4,Y b.2)] [(20,aK 4 i 1 bO b.1)] [20]) 1 (aV) ?_)))));rintro K ⟨Q,x⟩ L h;refine ao (ad a (aD h (λI h=>?_) λI h=>?_))
 ·refine aA ?_;obtain⟨M,R,h⟩:=nu h;refine mV (γ:=Nat) (j:=M) (r:=r) (λb i=>bx [(0,V.aU (eC t)),(3,ms 20 i 1 bO b),(4,Y x)] [(20,aK 4 i 1 bO b)] [20]) ?_ ?_
  ·refine bu (ao (bZ h (λb=>bx [(0,V.aU (eC t)),(3,ms 20 L 1 bO Q),(4,Y x),(44,aW b)] [(20,aK 4 L 1 bO Q)] [20]) (λSj h=>au h λk1 d h=>bh h (λq h=>bK a bJ ([ar (bM bO d),bD bO d]++aR 16 q) (az h)) λq h=>cX h λo8 W N y P A h=>bK a bJ ([ar (bM bO d),bD bO d]++aX 7 q++[cq (pN ai W),dE t.iX]++aX 6 q++[a8 ai y,aY q,aY q,ay (Kn G A),aY q]) (az h)) λS h=>aD h (λT h=>bF ⟨Q,L,h,aV⟩) λT h=>aA (bU h λU k B l h=>ag a [ar (bM bO k),bD bO k,.z (.rows (B.map bO)),.z (.len 3 (B.map bO).length),ar (str bO l),ar (cS bO l)] (au h λc C h=>ag a [a' [] [21] (UC G C),aN ai c] (bu (cT h (λb i=>bx [(0,V.aU (eC t)),(3,ms 20 i 1 bO b.1),(4,Y x),(50,ms 21 1 1 ai c),(51,Y (c.length:Int)),(52,Y b.2)] [(20,aK 4 i 1 bO b.1),(21,aK 3 1 1 ai c)] [20,21]) L (aV) ?_))))));rintro D ⟨f,F⟩ e h;exact ad a (da h (λh' h=>aA (bZ h (λb=>bx [(0,V.aU (eC t)),(3,ms 20 e 1 bO b),(4,Y x),(50,ms 21 1 1 ai c),(51,Y (c.length:Int)),(52,Y F)] [(20,aK 4 e 1 bO b),(21,aK 3 1 1 ai c)] [20,21]) (λakl h=>bu (au h λqa m h=>ag a [ar (bM ai m),bD ai m] (ad a (aD h (λlK h=>bU h λuj o H p h=>aG a [ar (bM bO o),bD bO o,.z (.rows (H.map bO)),.z (.len 3 (H.map bO).length),ar (str bO p),ar (cS bO p)] (az h)) λlK h=>aA (az h))))) λg h=>bs a ⟨(g,wr (F+1)),e,h,aV⟩)) λh' h=>bF ⟨f,e,h,aV⟩)
  rintro u v h;subst R;exact bs a ⟨(u,wr (x-1)),v,h,aV⟩
 exact av h▸bF (ad a (fa a 2 20))
theorem lS{e}{a}{r}(h:iO n e a=aa r):bm G 248 [V.agg (ee e),Y a] (aW r):=bE aT func248 rfl λw X c=>ag c [.z (.b (ab))] (bZ h (λi=>b2 [(4,aW i)]) (λk h=>bh h (λd h=>aG c (aR 5 d) (az h)) λd h=>aG c (aX 5 d) (az h)) λl h=>av h▸aF)
theorem MS{a}{b}{r}(h:xp n a b=aa r):bm G 192 [aI ai a,aI ai b] (aW r):=bE aT func192 rfl λw X c=>ad c (ao (ag c [aN ai a,aN ai b] (aD h (λk h=>av h▸ad c aF) λk h=>aA (ao (ad c (bu (cv h (λl=>b2 [(0,aI ai a),(1,aI ai b),(5,Y l)]) aV λd p h=>ao (ag c [aN ai a] (aD h (λm h=>aA (bH (ao (bU h λq e s i h=>bK c bJ [a8 ai e,a8 ai i] (aD h (λo h=>av h▸ad c aF) λo h=>aA (bs c (az h))))))) λm h=>av h▸bF (ad c aF))))))))))
theorem Yi{a}{b}{r}(h:AK n a b=aa r):bm G 127 [V.agg [cc a.name,aI ai a.b9],V.agg [cc b.name,aI ai b.b9]] (aW r):=bE aT func127 rfl λw X c=>ag c [.z (.b (ab)),.z (.b (ab))] (ao (ad c (aD h (λe h=>av h▸ad c aF) λe h=>aA (ao (au h λk d h=>ag c [ay (MS G d)] (aD h (λi h=>av h▸ad c aF) λi h=>av h▸aA (ad c aF)))))))
theorem XG{a}{b}{r}(h:FF n a b=aa r):bm G 48 [aI a6 a,aI a6 b] (aW r):=bE aT func48 rfl λw X c=>ad c (ao (ag c [aN a6 a,aN a6 b] (aD h (λl h=>av h▸ad c aF) λl h=>aA (ao (ad c (bu (cv h (λm=>b2 [(0,aI a6 a),(1,aI a6 b),(5,Y m)]) aV λd q h=>ao (ag c [aN a6 a] (aD h (λo h=>aA (bH (ao (cX h λs e x i y k h=>bK c bJ [a8 a6 e,a8 a6 i,ay (Yi G k)] (aD h (λp h=>av h▸ad c aF) λp h=>aA (bs c (az h))))))) λo h=>av h▸bF (ad c aF))))))))))
theorem LG{a}{b}{r}(h:zI n a b=aa r):bm G 314 [V.agg (cF a),V.agg (cF b)] (aW r):=bE aT func314 rfl λw X c=>ag c [.z (.b (ab)),.z (.b (ab))] (ao (au h λk d h=>ag c [ay (MS G d)] (aD h (λe h=>av h▸ad c aF) λe h=>aA (ao (ad c (aD h (λi h=>av h▸ad c aF) λi h=>av h▸aA (ad c aF)))))))
theorem KK{a}{b}{r}(h:zw n a b=aa r):bm G 289 [aI aq a,aI aq b] (aW r):=bE aT func289 rfl λw X c=>ad c (ao (ag c [aN aq a,aN aq b] (aD h (λl h=>av h▸ad c aF) λl h=>aA (ao (ad c (bu (cv h (λm=>b2 [(0,aI aq a),(1,aI aq b),(5,Y m)]) aV λd q h=>ao (ag c [aN aq a] (aD h (λo h=>aA (bH (ao (cX h λs e x i y k h=>bK c bJ [a8 aq e,a8 aq i,ay (LG G k)] (aD h (λp h=>av h▸ad c aF) λp h=>aA (bs c (az h))))))) λo h=>av h▸bF (ad c aF))))))))))
theorem Zq{a}{b}{r}(h:Bx n a b=aa r):bm G 249 [V.agg (iy a),V.agg (iy b)] (aW r):=bE aT func249 rfl λw X c=>ag c [.z (.b (ab)),.z (.b (ab))] (ao (au h λl d h=>ag c [ay (KK G d)] (aD h (λi h=>av h▸ad c aF) λi h=>aA (ao (au h λm e h=>ag c [ay (KK G e)] (aD h (λk h=>av h▸ad c aF) λk h=>av h▸aA (ad c aF)))))))
theorem Yg{a}{b}{r}(h:Gx n a b=aa r):bm G 193 [aI aw a,aI aw b] (aW r):=bE aT func193 rfl λw X c=>ad c (ao (ag c [aN aw a,aN aw b] (aD h (λl h=>av h▸ad c aF) λl h=>aA (ao (ad c (bu (cv h (λm=>b2 [(0,aI aw a),(1,aI aw b),(5,Y m)]) aV λd q h=>ao (ag c [aN aw a] (aD h (λo h=>aA (bH (ao (cX h λs e x i y k h=>bK c bJ [a8 aw e,a8 aw i,ay (Zq G k)] (aD h (λp h=>av h▸ad c aF) λp h=>aA (bs c (az h))))))) λo h=>av h▸bF (ad c aF))))))))))
theorem LH{a}{b}{r}(h:zJ n a b=aa r):bm G 290 [V.agg (d8 a),V.agg (d8 b)] (aW r):=bE aT func290 rfl λw X c=>ag c [.z (.b (ab)),.z (.b (ab))] (ao (ad c (aD h (λe h=>av h▸ad c aF) λe h=>aA (ao (au h λk d h=>ag c [ay (KK G d)] (aD h (λi h=>av h▸ad c aF) λi h=>av h▸aA (ad c aF)))))))
theorem Yh(G:cK)(n:Nat)(self:Expr->Expr->Option Bool)(d: ∀(p:Expr) (q:Expr) {r:Bool},self p q=aa r->bm G 291 [V.agg (ee p),V.agg (ee q)] (aW r))(a:List Expr)(b:List Expr){r:Bool}(h:Gy n self a b=aa r):bm G 315 [aI aJ a,aI aJ b] (aW r):=by
 refine bE aT func315 rfl λw X c=>ad c (ao (ag c [aN aJ a,aN aJ b] (aD h (λs h=>?_) λs h=>?_)))
 ·cases h;exact ad c aF
 refine aA (ao (ad c (bu (cv h (λx=>b2 [(0,aI aJ a),(1,aI aJ b),(5,Y x)]) aV λe B h=>ao (ag c [aN aJ a] (aD h (λy h=>?_) λy h=>?_))))))
 ·refine aA (bH (ao (cX h λi k l m C o h=>bK c bJ [.z (.row (bn i)),.z (.row (bn l)),ar (gb aJ k (cP i)),ar (gb aJ m (cP l)),ay (d i l o)] (aD h (λA h=>?_) λA h=>aA (bs c (az h))))));cases h;exact ad c aF
 cases h;exact bF (ad c aF)
theorem Zr(G:cK): ∀(n:Nat) (a:Expr) (b:Expr) {r:Bool} (h:p9 n a b=aa r),bm G 291 [V.agg (ee a),V.agg (ee b)] (aW r):=by
 intro n;induction n with
 |zero=>intro a b r h;rw[p9.eq_def] at h;cases h
 |succ n k=>
  intro a b r h;rw[p9.eq_def] at h;dsimp only at h;refine bE aT func291 rfl λw X c=>ag c [.z (.b (ab)),.z (.b (ab))] (ao (ad c (aD h (λl h=>?_) λl h=>?_)))
  ·cases h;exact ad c aF
  refine aA (ao (ad c (aD h (λm h=>?_) λm h=>?_)))
  ·cases h;exact ad c aF
  refine aA (ao ?_);obtain⟨y,d,h⟩:=c9 h;refine ag c [ay (LG G d)] (aD h (λo h=>?_) λo h=>?_)
  ·cases h;exact ad c aF
  refine aA (ao ?_);obtain⟨A,e,h⟩:=c9 h;refine ag c [ay (LH G e)] (aD h (λp h=>?_) λp h=>?_)
  ·cases h;exact ad c aF
  refine aA (ao ?_);obtain⟨B,i,h⟩:=c9 h;refine ag c [ay (Yh G n (p9 n) (λq s r h=>k q s h) a.aZ b.aZ i)] (aD h (λx h=>?_) λx h=>?_)
  ·cases h;exact ad c aF
  cases h;exact aA (ad c aF)
theorem Zn{a}{b}{r}(h:Bv n a b=aa r):bm G 250 [V.agg (fU a),V.agg (fU b)] (aW r):=bE aT func250 rfl λw X c=>ag c [.z (.b (ab)),.z (.b (ab))] (ao (au h λl d h=>ag c [ay (LH G d)] (aD h (λi h=>av h▸ad c aF) λi h=>aA (ao (au h λm e h=>ag c [ay (Zr G n a.value b.value e)] (aD h (λk h=>av h▸ad c aF) λk h=>av h▸aA (ad c aF)))))))
theorem Yd{a}{b}{r}(h:Gu n a b=aa r):bm G 194 [aI ax a,aI ax b] (aW r):=bE aT func194 rfl λw X c=>ad c (ao (ag c [aN ax a,aN ax b] (aD h (λl h=>av h▸ad c aF) λl h=>aA (ao (ad c (bu (cv h (λm=>b2 [(0,aI ax a),(1,aI ax b),(5,Y m)]) aV λd q h=>ao (ag c [aN ax a] (aD h (λo h=>aA (bH (ao (cX h λs e x i y k h=>bK c bJ [a8 ax e,a8 ax i,ay (Zn G k)] (aD h (λp h=>av h▸ad c aF) λp h=>aA (bs c (az h))))))) λo h=>av h▸bF (ad c aF))))))))))
theorem Zp{a}{b}{r}(h:Bw n a b=aa r):bm G 128 [V.agg (mg a),V.agg (mg b)] (aW r):=bE aT func128 rfl λw X c=>ag c [.z (.b (ab)),.z (.b (ab))] (ao (au h λl d h=>ag c [ay (Yg G d)] (aD h (λi h=>av h▸ad c aF) λi h=>aA (ao (au h λm e h=>ag c [ay (Yd G e)] (aD h (λk h=>av h▸ad c aF) λk h=>av h▸aA (ad c aF)))))))
theorem Yf{a}{b}{r}(h:Gw n a b=aa r):bm G 49 [aI an a,aI an b] (aW r):=bE aT func49 rfl λw X c=>ad c (ao (ag c [aN an a,aN an b] (aD h (λl h=>av h▸ad c aF) λl h=>aA (ao (ad c (bu (cv h (λm=>b2 [(0,aI an a),(1,aI an b),(5,Y m)]) aV λd q h=>ao (ag c [aN an a] (aD h (λo h=>aA (bH (ao (cX h λs e x i y k h=>bK c bJ [a8 an e,a8 an i,ay (Zp G k)] (aD h (λp h=>av h▸ad c aF) λp h=>aA (bs c (az h))))))) λo h=>av h▸bF (ad c aF))))))))))
theorem tg{a}{b}{r}(h:tr n a b=aa r):bm G 10 [V.agg (cC a),V.agg (cC b)] (aW r):=bE aT func10 rfl λw X c=>ag c [.z (.b (ab)),.z (.b (ab))] (ao (au h λl d h=>ag c [ay (XG G d)] (aD h (λi h=>av h▸ad c aF) λi h=>aA (ao (au h λm e h=>ag c [ay (Yf G e)] (aD h (λk h=>av h▸ad c aF) λk h=>av h▸aA (ad c aF)))))))
theorem i8{k}{r}(h:j5 n k=aa r):bm G 129 [Y k] (cc r):=by refine bE aT func129 rfl λw X a=>ad a (ao (ad a (aD h (λl h=>av h▸ad a aF) λl h=>aA (ad a (bH (cv h (λi=>b2 [(0,Y i.1),(3,cc i.2)]) aV ?_))))));rintro b ⟨c,o⟩ h;exact ao (ad a (aD h (λm h=>aA (bu (au h λp d h=>ag a [.z (.y (UInt8.ofInt (wr (48+(Int.tmod c 10))))),.z (.int 0),.z (.str [UInt8.ofInt (wr (48+(Int.tmod c 10)))]),ar (show(10:Int)≠0 by decide),ar (bd (UInt8.ofInt (wr (48+(Int.tmod c 10))))),ar (bd (bk t8 [UInt8.ofInt (wr (48+(Int.tmod c 10)))])),Sp d] (aG a [ar (show(10:Int)≠0 by decide)] (az h))))) λm h=>bF (au h λq e h=>av h▸ag a [Sp e] aF)))
theorem El{a}{k}{r}(h:nA n a k=aa r):bm G 133 [aI ai a,Y k] (Y r):=by refine bE aT func133 rfl λw X b=>ad b (ao (ad b (bu (cv h (λe=>b2 [(0,aI ai a),(1,Y e.1),(5,Y e.2)]) aV ?_))));rintro c ⟨m,o⟩ h;exact ao (ag b [aN ai a] (aD h (λi h=>aA (bH (ao (au h λp d h=>ag b [a8 ai d] (aD h (λl h=>av h▸ad b aF) λl h=>aA (bs b (bs b (az h)))))))) λi h=>av h▸bF (ad b aF)))
theorem VW{a}{k}{r}(h:wa n a k=aa r):bm G 52 [aI a6 a,Y k] (Y r):=by refine bE aT func52 rfl λw X b=>ad b (ao (ad b (bu (cv h (λl=>b2 [(0,aI a6 a),(1,Y l.1),(5,Y l.2)]) aV ?_))));rintro d ⟨q,s⟩ h;exact ao (ag b [aN a6 a] (aD h (λm h=>aA (bH (ao (ao (bU h λx c y e h=>bK b bJ [a8 a6 c,ay (i8 G e)] (aD h (λo h=>av h▸ad b aF) λo h=>aA (ad b (au h λz i h=>ag b [a8 a6 c,ay (El G i)] (ad b (aD h (λp h=>av h▸ad b aF) λp h=>aA (bs b (az h)))))))))))) λm h=>av h▸bF (ad b aF)))
theorem y1{a}{k}{r}(h:kG n a k=aa r):bm G 197 [aI aq a,Y k] (Y r):=by refine bE aT func197 rfl λw X b=>ad b (ao (ad b (bu (cv h (λi=>b2 [(0,aI aq a),(1,Y i.1),(5,Y i.2)]) aV ?_))));rintro d ⟨p,q⟩ h;exact ao (ag b [aN aq a] (aD h (λl h=>aA (bH (bU h λs c x e h=>ag b [a8 aq c,ay (El G e)] (ao (ad b (aD h (λm h=>av h▸ad b aF) λm h=>aA (ao (ag b [a8 aq c] (aD h (λo h=>av h▸ad b aF) λo h=>aA (bs b (bs b (az h)))))))))))) λl h=>av h▸bF (ad b aF)))
theorem WU{a}{k}{r}(h:tq n a k=aa r):bm G 134 [aI aw a,Y k] (Y r):=by refine bE aT func134 rfl λw X b=>ad b (ao (ad b (bu (cv h (λl=>b2 [(0,aI aw a),(1,Y l.1),(5,Y l.2)]) aV ?_))));rintro d ⟨q,s⟩ h;exact ao (ag b [aN aw a] (aD h (λm h=>aA (bH (bU h λx c y e h=>ag b [a8 aw c,ay (y1 G e)] (ao (ad b (aD h (λo h=>av h▸ad b aF) λo h=>aA (au h λz i h=>ag b [a8 aw c,ay (y1 G i)] (ad b (aD h (λp h=>av h▸ad b aF) λp h=>aA (bs b (az h))))))))))) λm h=>av h▸bF (ad b aF)))
theorem V6(G:cK): ∀(n:Nat) (a:List Expr) (k:Int) {r:Int} (h:ni n a k=aa r),bm G 198 [aI aJ a,Y k] (Y r):=by
 intro n;induction n with
 |zero=>intro a k r h;rw[ni.eq_def] at h;cases h
 |succ n q=>
  intro a k r h;rw[ni.eq_def] at h;dsimp only at h;refine bE aT func198 rfl λw X b=>ad b (ao (ad b (bu (cv h (λp=>b2 [(0,aI aJ a),(1,Y p.1),(5,Y p.2)]) aV ?_))));rintro e ⟨K,L⟩ h;refine ao (ag b [aN aJ a] (aD h (λs h=>?_) λs h=>?_))
  ·refine aA (bH (ao ?_));obtain⟨c,d,h⟩:=c9 h;refine ag b [.z (.row (bn c)),ar (gb aJ d (cP c))] (aD h (λx h=>?_) λx h=>?_)
   ·obtain rfl:=av h;exact ad b aF
   refine aA (ad b (ao (ag b [.z (.row (bn c)),ar (gb aJ d (cP c))] (aD h (λy h=>?_) λy h=>?_))))
   ·obtain rfl:=av h;exact ad b aF
   refine aA (ad b ?_);obtain⟨Q,i,h⟩:=c9 h;refine ag b [.z (.row (bn c)),ar (gb aJ d (cP c)),ay (El G i)] (ao (ad b (aD h (λA h=>?_) λA h=>?_)))
   ·obtain rfl:=av h;exact ad b aF
   refine aA (ao (ag b [.z (.row (bn c)),ar (gb aJ d (cP c))] (aD h (λB h=>?_) λB h=>?_)))
   ·obtain rfl:=av h;exact ad b aF
   refine aA (ad b (ao (ao ?_)));obtain⟨R,l,h⟩:=c9 h;refine bK b bJ [.z (.row (bn c)),ar (gb aJ d (cP c)),ay (i8 G l)] (aD h (λC h=>?_) λC h=>?_)
   ·obtain rfl:=av h;exact ad b aF
   refine aA (ad b ?_);obtain⟨D,m,h⟩:=c9 h;refine ag b [.z (.row (bn c)),ar (gb aJ d (cP c)),ay (y1 G m)] (ao (ad b (aD h (λF h=>?_) λF h=>?_)))
   ·obtain rfl:=av h;exact ad b aF
   refine aA ?_;obtain⟨W,o,h⟩:=c9 h;refine ag b [.z (.row (bn c)),ar (gb aJ d (cP c)),ay (q c.aZ D o)] (ad b (aD h (λH h=>?_) λH h=>aA (bs b (az h))));obtain rfl:=av h;exact ad b aF
  obtain rfl:=av h;exact bF (ad b aF)
theorem WS{a}{k}{r}(h:tp n a k=aa r):bm G 135 [aI ax a,Y k] (Y r):=by refine bE aT func135 rfl λw X b=>ad b (ao (ad b (bu (cv h (λs=>b2 [(0,aI ax a),(1,Y s.1),(5,Y s.2)]) aV ?_))));rintro e ⟨R,W⟩ h;exact ao (ag b [aN ax a] (aD h (λx h=>aA (bH (ao (ao (bU h λy c f i h=>bK b bJ [a8 ax c,ay (i8 G i)] (aD h (λz h=>av h▸ad b aF) λz h=>aA (ad b (au h λg l h=>ag b [a8 ax c,ay (y1 G l)] (ao (ad b (aD h (λA h=>av h▸ad b aF) λA h=>aA (ao (ag b [a8 ax c] (aD h (λB h=>av h▸ad b aF) λB h=>aA (ad b (ao (ag b [a8 ax c] (aD h (λC h=>av h▸ad b aF) λC h=>aA (ad b (au h λj m h=>ag b [a8 ax c,ay (El G m)] (ao (ad b (aD h (λD h=>av h▸ad b aF) λD h=>aA (ao (ag b [a8 ax c] (aD h (λF h=>av h▸ad b aF) λF h=>aA (ad b (ao (ao (au h λt o h=>bK b bJ [a8 ax c,ay (i8 G o)] (aD h (λH h=>av h▸ad b aF) λH h=>aA (ad b (au h λK p h=>ag b [a8 ax c,ay (y1 G p)] (ao (ad b (aD h (λL h=>av h▸ad b aF) λL h=>aA (au h λQ d h=>ag b [a8 ax c,ay (V6 G n y.value.aZ K d)] (ad b (aD h (λq h=>av h▸ad b aF) λq h=>aA (bs b (az h))))))))))))))))))))))))))))))))))))))))) λx h=>av h▸bF (ad b aF)))
theorem WT{a}{k}{r}(h:wq n a k=aa r):bm G 53 [aI an a,Y k] (Y r):=by refine bE aT func53 rfl λw X b=>ad b (ao (ad b (bu (cv h (λl=>b2 [(0,aI an a),(1,Y l.1),(5,Y l.2)]) aV ?_))));rintro d ⟨q,s⟩ h;exact ao (ag b [aN an a] (aD h (λm h=>aA (bH (bU h λx c y e h=>ag b [a8 an c,ay (WU G e)] (ao (ad b (aD h (λo h=>av h▸ad b aF) λo h=>aA (au h λz i h=>ag b [a8 an c,ay (WS G i)] (ad b (aD h (λp h=>av h▸ad b aF) λp h=>aA (bs b (az h))))))))))) λm h=>av h▸bF (ad b aF)))
theorem KS{a}{k}{r}(h:y6 n a k=aa r):bm G 12 [V.agg (cC a),Y k] (Y r):=bE aT func12 rfl λw X c=>ag c [.z (.b (ab))] (au h λm d h=>ag c [ay (VW G d)] (ao (ad c (aD h (λi h=>av h▸ad c aF) λi h=>aA (au h λo e h=>ag c [ay (WT G e)] (ao (ad c (aD h (λl h=>av h▸ad c aF) λl h=>av h▸aA (ad c aF)))))))))
theorem YH{a}{left}{r}(h:wN n a left=aa r):bm G 13 [aI cW a,Y left] (Y r):=bE aT func13 rfl λw X b=>ad b (ag b [aN cW a] (ao (ad b (aD h (λc h=>av h▸ad b aF) λc h=>av h▸aA (ad b aF)))))
theorem VF{p}{a}{r}(h:Ef n p a=aa r):bm G 14 [V.agg (cC p),aI cW a] (V.bY [V.agg (cC r.1),aW r.2]):=by refine bE aT func14 rfl λw X b=>ag b [.z (.nat 20),.z (.nat 21)] (au h λq m h=>ag b [ay (lL G m)] (ao (bZ h (λd=>bx [(1,aI cW a),(2,V.ref 20 0),(4,V.ref 21 0),(19,aW d)] [(20,E.cells (cC q)),(21,E.cells [bw,bw])] [20,21]) (λC h=>au h λD e h=>bh h (λc h=>aG b [ay (fZ G e),aO c,aO c,aN cW a,aO c,aO c] (az h)) λc h=>aG b ([ay (fZ G e)]++aX 4 c) (az h)) λF h=>aD h (λs h=>av h▸ad b aF) λs h=>aA (au h λH o h=>ag b [a' [] [22,23] (AE G o),.z (.nat 24)] (ao (ad b (bu (aQ b [.bT 22 [] [24]] (aQ b [.ec 23,.bT 23 [] [24]] (cv h (λd=>bx [(1,aI cW a),(4,V.ref 21 0),(6,V.ref 24 0),(7,Y d.2.2)] [(20,E.cells (cC q)),(21,E.cells [bw,bw]),(24,E.cells [aI a6 d.1,aI an d.2.1])] [20,21,22,23,24]) aV ?_))))))))));rintro l ⟨K,L,Q⟩ h;exact ao (ag b [aN cW a] (aD h (λx h=>aA (bH (ao (bU h λy i A k h=>bK b bJ [a8 cW i,ay (Wg G k),.z (.nat 25)] (ao (ad b (aD h (λB h=>av h▸ad b aF) λB h=>aA (bs b (bs b (az h)))))))))) λx h=>av h▸bF (ad b aF)))
theorem EZ{a}{r}(h:tJ n a=aa r):b' G 15 [] [aI cW a] (ms 0 1 4 cW r) [aK 36 1 4 cW r]:=by refine cj aT func15 rfl λw X q b A=>ad b (au h λB c h=>ag b [aN cW a,.z (.nat 20),cq (lo cW c),ar (jE c).1] (ao (ad b (bu (cT h (λk p=>bx [(0,aI cW a),(3,ms 20 p 4 cW k.1),(4,Y k.2)] [(20,aK 36 p 4 cW k.1)] [20]) 1 (aV) ?_)))));rintro i ⟨C,s⟩ x h;exact ao (ag b [aN cW a] (aD h (λy h=>aA (bH (cX h λD l F m H d h=>au h λo e h=>aG b [a8 cW l,ay (ZC G m),ar (bM cW d),bD cW d,.z (.rows (o.map cW)),.z (.len 3 (o.map cW).length),ar (str cW e),ar (cS cW e)] (bs b ⟨(o,wr (s+1)),x,h,aV⟩)))) λy h=>av h▸bF (ad b (fa b 2 20))))
theorem Zo{a}{b}{r}(h:GP n a b=aa r):bm G 58 [V.agg [Y a.kind,Y a.part,Y a.a,Y a.b],V.agg [Y b.kind,Y b.part,Y b.a,Y b.b]] (aW r):=bE aT func58 rfl λw X c=>ag c [.z (.b (ab)),.z (.b (ab))] (ao (ad c (aD h (λd h=>av h▸ad c aF) λd h=>aA (ao (ad c (aD h (λe h=>av h▸ad c aF) λe h=>aA (ao (ad c (aD h (λi h=>av h▸ad c aF) λi h=>aA (ao (ad c (aD h (λk h=>av h▸ad c aF) λk h=>av h▸aA (ad c aF)))))))))))))
theorem Ye{a}{b}{r}(h:Gv n a b=aa r):bm G 17 [aI cW a,aI cW b] (aW r):=bE aT func17 rfl λw X c=>ad c (ao (ag c [aN cW a,aN cW b] (aD h (λl h=>av h▸ad c aF) λl h=>aA (ao (ad c (bu (cv h (λm=>b2 [(0,aI cW a),(1,aI cW b),(5,Y m)]) aV λd q h=>ao (ag c [aN cW a] (aD h (λo h=>aA (bH (ao (cX h λs e x i y k h=>bK c bJ [a8 cW e,a8 cW i,ay (Zo G k)] (aD h (λp h=>av h▸ad c aF) λp h=>aA (bs c (az h))))))) λo h=>av h▸bF (ad c aF))))))))))
end Go.Lift
