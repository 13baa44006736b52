/- Tools. -/
import Derived.Test.YtlklcemjbgpcnaaGreatOWalks2
set_option maxRecDepth 10000
set_option linter.unusedVariables false
namespace Go.Lift
open Go Go.Proofs Go.Proofs.Tryz
open Option renaming some -> aa, none -> aj, map_some -> gS
open Bool renaming true -> ab, false -> ak
open Decidable renaming decide -> ai
open Go.Builtin renaming zeroCells -> ea, append_ -> iX
open Int renaming toNat -> bA
open List renaming map -> bL
open Eq renaming refl -> bG
section
variable (G:cN){n:Nat}
theorem NQ{a}{r}(h:xY n a=aa r):ba G 146 [Y a] (aT r):=bp aQ func146 rfl λw X c=>U c (an h λd b h=>aq h▸ad c [au (ga G b)] aB)
variable {r:aF}{a:Type}{l x:List a}{o:Nat}{z:Value}
theorem XH(G:cN)(n:Nat)(a:aF)(c:Int)(d:Int)(h:zJ n a c d=aa r):ba G 148 [V.agg (cF a),V.aS [T.int .i64 c],V.aS [T.int .i64 d]] (V.agg (cF r)):=bp aQ func148 rfl λw X e=>ad e [.z (.b (ab)),.z (.nat 20)] (al (bP h λl i m k h=>aq h▸bJ e bI [bg [] [21] (tF G i),.z (.at 2),.z (.bN 21 [8] []),bg [] [22] (Cs G k)] (bF e [.bN 22 [] [20]] aB)))
theorem XG(G:cN)(n:Nat)(a:aF)(c:Int)(d:aF)(h:wv n a c d=aa r):ba G 150 [V.agg (cF a),V.aS [T.int .i64 c],V.aS (az d)] (V.agg (cF r)):=bp aQ func150 rfl λw X e=>ad e [.z (.b (ab)),.z (.nat 20)] (an h λk i h=>aq h▸ad e [bg [] [21] (G2 G i)] (bF e [.bN 21 [] [20]] aB))
theorem Zc{p}{part}{loop}{d}{r}(h:AU n p part loop d=aa r):ba G 67 [V.agg (b9 p),Y part,Y loop,Y d] (V.bX [V.agg (b9 r.1),aT r.2]):=bp aQ func67 rfl λw X c=>ad c [.z (.b (ab)),.z (.b (ab)),.z (.b (ab)),.z (.nat 20)] (al (an h λo s h=>bh h (λD h=>aE c [au (rF G n p part loop s D),.z (.nat 21)] (al (al (bJ c bI (dY 16) (km (b:=ab) J (λe=>aq h▸U c aB) λe=>by cases e))))) λD h=>aE c [bg [] [21,22] (rD G n p part loop s D),.z (.nat 23)] (al (bW h (λf=>bj [(6,V.aS [T.int .i64 loop]),(7,V.aS [T.int .i64 d]),(8,V.ref 20 0),(10,V.ref 23 0),(11,V.cR 22 1 2 (0+bA part) 0),(42,aT f)] [(20,E.cells [br,br]),(21,aH 71 1 2 a' o.1.bc),(22,E.aN ca 0 1 (o.1.parts.map ar) []),(23,E.cells [ms 21 1 2 a' o.1.bc,ms 22 1 2 ar o.1.parts])] [20,21,22,23]) (λM h=>bh h (λe h=>an h λi a h=>c6 c [.dt 22 24 (0+bA part) 0 (ar i)] (aL (bY ar a)) (bh h (λq h=>an h λg F h=>bJ c bI ([b',b',b']++aO 6 e++[bw ar a,aK e,aI av i.nest,aK e,aK e,aK q,aK q,au (NQ G F),aK q,aK q]) ⟨!g,h,S.le.trans (yL c [.cP 22 24 (ar i) (o.1.parts.map ar)] (a4 (bG (i.nest.map av).length) (bG ca) (bY ar a) (jG ar a rfl))) (aM)⟩) λq h=>bJ c bI ([b',b',b']++aO 6 e++[bw ar a,aK e,aI av i.nest,aK e,aK e]++aV 4 q) ⟨ab,h,S.le.trans (yL c [.cP 22 24 (ar i) (o.1.parts.map ar)] (a4 (bG (i.nest.map av).length) (bG ca) (bY ar a) (jG ar a rfl))) (aM)⟩)) λe h=>bJ c bI ([b',b',b']++aV 9 e++dY 4) (ay h)) λN h=>aC h (λj h=>aq h▸U c aB) λj h=>ax (al (cW h λi a t x P H h=>bP h λu y A k h=>bJ c bI [.z (.dt 22 25 (0+bA part) 0 (ar i)),bw ar a,aw (bY ar a),aw (bK av x),bg [25] [] (Tp G n i.nest (wr (loop+1)) t x 1 148 [T.int .i64 d] [T.int .i64 loop] (λm=>zJ n m d loop) (λm r h=>XH G n m d loop h) H y)] (c6 c [.cP 22 25 (ar i) (A.map ar)] (a4 (cQ av y) (bG ca) (bY ar a) (hd ar k rfl)) (al (an h λUu K h=>an h λLf L h=>an h λQ R h=>bJ c bI [bg [] [26] (tF G K),bg [] [27] (tF G L),.z (.at 3),.z (.bN 26 [55] []),.z (.at 3),.z (.bN 27 [59] []),bg [] [28] (Cs G R),.z (.nat 29)] (bF c [.bN 28 [] [29],.tc 29 [13]] (bP h λv B W l h=>ad c [bg [22] [] (KH G n A part (⟨u,i.body⟩:Part) (CL k) 1 (wr (loop+2)) 150 [T.int .i64 loop] (az Q) (λm=>wv n m loop Q) (λm r h=>XG G n m loop Q h) B l)] (c6 c [.en 22,.e6 23 1 (W.map ar).length,.bN 21 [] [23],.bN 22 [] [23]] (aL ((cQ ar k).trans (cQ ar l))) (an h λI C h=>aq h▸ad c [au (rz G C)] aB)))))))))))))
theorem Wx(G:cN)(n:Nat)(a:aF)(c:Int)(h:zz n a c=aa r):ba G 151 [V.agg (cF a),V.aS [T.int .i64 c]] (V.agg (cF r)):=bp aQ func151 rfl λw X d=>ad d [.z (.b (ab)),.z (.nat 20)] (al (bP h λk e l i h=>aq h▸bJ d bI [bg [] [21] (wz G e),.z (.at 2),.z (.bN 21 [6] []),bg [] [22] (Cs G i)] (bF d [.bN 22 [] [20]] aB)))
theorem Ww(G:cN)(n:Nat)(a:aF)(c:Int)(d:aF)(h:wm n a c d=aa r):ba G 153 [V.agg (cF a),V.aS [T.int .i64 c],V.aS (az d)] (V.agg (cF r)):=bp aQ func153 rfl λw X e=>ad e [.z (.b (ab)),.z (.nat 20)] (an h λk i h=>aq h▸ad e [bg [] [21] (G2 G i)] (bF e [.bN 21 [] [20]] aB))
theorem XS{p}{part}{loop}{a}{r}(h:Fu n p part loop a=aa r):ba G 68 [V.agg (b9 p),Y part,Y loop,Y a] (V.bX [V.agg (b9 r.1),aT r.2]):=bp aQ func68 rfl λw X c=>ad c [.z (.b (ab)),.z (.b (ab)),.z (.b (ab)),.z (.nat 20)] (al (an h λA m h=>bh h (λC h=>aE c [au (rF G n p part loop m C),.z (.nat 21)] (al (ad c (dY 7) (km (b:=ab) J (λe=>aq h▸U c aB) λe=>by cases e)))) λC h=>aE c [bg [] [21,22] (rD G n p part loop m C),.z (.nat 23)] (al (bW h (λQ=>bj [(6,V.aS [T.int .i64 loop]),(7,V.aS [T.int .i64 a]),(8,V.ref 20 0),(10,V.ref 23 0),(11,V.cR 22 1 2 (0+bA part) 0),(32,aT Q)] [(20,E.cells [br,br]),(21,aH 71 1 2 a' A.1.bc),(22,E.aN ca 0 1 (A.1.parts.map ar) []),(23,E.cells [ms 21 1 2 a' A.1.bc,ms 22 1 2 ar A.1.parts])] [20,21,22,23]) (λt h=>bh h (λe h=>an h λu D h=>aE c [b',b',b',aK e,aK e,au (NQ G D),aK e,aK e] (ay h)) λe h=>aE c ([b',b',b']++aV 4 e) (ay h)) λv h=>aC h (λR h=>aq h▸U c aB) λR h=>ax (al (cW h λB k W o I F h=>bP h λf q s d h=>bJ c bI [.z (.dt 22 25 (0+bA part) 0 (ar B)),bw ar k,aw (bY ar k),aw (bK av o),bg [25] [] (Tq G n B.nest loop W o 1 151 [T.int .i64 a] (λl=>zz n l a) (λl r h=>Wx G n l a h) F q)] (c6 c [.cP 22 25 (ar B) (s.map ar)] (a4 (cQ av q) (bG ca) (bY ar k) (hd ar d rfl)) (an h λH K h=>ad c [bg [] [26] (tF G K),.z (.nat 27)] (U c (bF c [.bN 26 [] [27],.tc 27 [13]] (bP h λg x L i h=>ad c [bg [22] [] (KH G n s part (⟨f,B.body⟩:Part) (CL d) 1 (wr (loop+1)) 153 [T.int .i64 loop] [T.bE (H.aU.map ah),T.int .i64 (wr (0-a))] (λl=>wm n l loop (⟨H.aU,wr (0-a)⟩:aF)) (λl r h=>Ww G n l loop (⟨H.aU,wr (0-a)⟩:aF) h) x i)] (c6 c [.en 22,.e6 23 1 (L.map ar).length,.bN 21 [] [23],.bN 22 [] [23]] (aL ((cQ ar d).trans (cQ ar i))) (an h λj y h=>aq h▸ad c [au (rz G y)] aB)))))))))))))
theorem afI(f:a->List T){m:Nat}(c:o<l.length)(b:m=l.length-o):o+m<=(l.map f).length/\(sY l o x).map f=(l.map f).take o++(x.map f).take (Nat.min (x.map f).length m)++(l.map f).drop (o+Nat.min (x.map f).length m):=by subst b;refine⟨by rw[dJ];omega,?_⟩;unfold sY;rw[h7,h7,uj,uj,List.map_drop,dJ]
theorem PB(f:a->List T)(b:o<l.length):(l.map f).length=((sY l o x).map f).length:=by
 unfold sY;simp only[List.length_map,List.length_append,List.length_take,List.length_drop]
 have:Nat.min x.length (l.length-o)=min x.length (l.length-o):=rfl;omega
theorem Wv(G:cN)(n:Nat)(a:aF)(c:Int)(h:wk n a c=aa r):ba G 155 [V.agg (cF a),V.aS [T.int .i64 c]] (V.agg (cF r)):=by
 refine bp aQ func155 rfl λw X e=>ad e [.z (.b (ab)),.z (.nat 20)] (an h λd y h=>ad e [bg [] [21] (v' G n a y),.z (.nat 22)] (kp (ai ((0:Int)<=wr (c+1))) (λq=>?_) λq=>?_))
 ·have h:=ik q h;exact jE h
 have h:=il q h;refine kp (ai (wr (c+1)<(d.aU.length:Int))) (λs=>?_) λs=>?_
 ·have h:=ik s h;exact jE h
 have h:=il s h;have C:=fv q;have D:=fv s;exact cW h λi A F k B p h=>aq h▸al (bJ e bI [.z (.nat (wr (c+1)).toNat),.z (.nat (d.aU.length-(wr (c+1)).toNat)),aw (OS ah d.aU C D),b2 (qc ah A),.z (.rows (bL ah (sY d.aU (wr (c+1)).toNat i))),.z (.nat (Nat.min (i.map ah).length (d.aU.length-(wr (c+1)).toNat))),db a.aU,db i,aw (afI ah (l:=d.aU) (x:=i) (o:=(wr (c+1)).toNat) (m:=d.aU.length-(wr (c+1)).toNat) O rfl)] (ad e [aw (Dg ah k (PB ah (l:=d.aU) (x:=i) (o:=(wr (c+1)).toNat) O)),bw ah k,.z (.rows (B.map ah)),.z (.e6 22 0 (B.map ah).length),aw (str ah p),aw ((PB ah (l:=d.aU) (x:=i) (o:=(wr (c+1)).toNat) O).trans (cQ ah p))] (bF e [.bN 21 [] [22]] (U e aB))))
open Go.RowKit Go.Lib in
set_option maxHeartbeats 4000000 in
set_option maxRecDepth 100000 in
theorem Xk(b n c i d m s:Nat)(l vs:List Value)(w:World)(aJ:i<n)(hm:0<m)(L:n+m<=c)(V:c<=9223372036854775807)(y:d≠b)
  (Q:l.length=n*2) (R:vs.length=m*2)
  (X: ∀j v,l[j]? =aa v->w.cell? ⟨b,j,aj⟩=aa v) (q: ∀j,j<(n+m)*2->(w.cell? ⟨b,j,aj⟩).isSome=ab) (z: ∀j,w.frozen? ⟨b,j,aj⟩=ak)
  (f: ∀j v,vs[j]? =aa v->w.cell? ⟨d,j,aj⟩=aa v) (g: ∀v∈l,v.oneCell'=ab) (t: ∀v∈vs,v.oneCell'=ab)
  (Y uc:TypeId) (u E:Nat) (I:w.shape? d=aa (Y,u)) (M:w.shape? b=aa (uc,E)) (N:E≠0) (A: ∀j,w.frozen? ⟨d,j,aj⟩=ak):
  Calls prog 156 #[.slice (aa ⟨b,0,aj⟩) n c,.int .i64 i,.slice (aa ⟨d,0,aj⟩) m s] w λe w'=>
   e= .returned (.slice (aa ⟨b,0,aj⟩) (n+m) c)/\w'=(w.drew.setCells b ((i+m)*2) (l.drop (i*2))).setCells b (i*2) vs:=by
 have hz1: ¬((m:Int)=0):=O
 have hz2: ¬((i:Int)=(n:Int)):=O
 have lC:IntKind.i64.wrap ((i:Int)+(m:Int))=(i:Int)+(m:Int):=by rw[IntKind.wrap_i64];omega
 have k2:(0:Int)<=(i:Int)+(m:Int):=O
 have k4:i<=n:=O
 have Kn:((i:Int)+(m:Int)).toNat=i+m:=O
 have vN: ¬(c=i+m):=O
 have yX:(i:Int)<=(n:Int)+(m:Int):=O
 have ah0: ¬(c=i):=O
 have P: ∀S T,(callFunc 217 #[.slice (aa ⟨d,0,aj⟩) m s,.slice (aa ⟨b,(i+m)*2,aj⟩) S T]).run prog w= .ok (.value (.bool ak)) w:=λS T=>by
  rw[run_callFunc_extern func217 J J J (e:=Extern.SlicesOverlaps.overlaps #[72,72] #[4]) J,
   Lib.run_overlaps_apart w 72 4 115 underlying72 2 sizeOf115 ⟨d,0,aj⟩ ⟨b,(i+m)*2,aj⟩ m s S T y Y uc u E I M N (A 0) (A u)]
  rfl
 have B:(l.drop (i*2)).length=(n-i)*2:=by rw[fY,Q];omega
 have C:(prog.info? 115).map (·.size)=aa 2:=J
 have p: ∀ty r kz,(Builtin.copy_ #[72,72] ty #[.slice (aa ⟨b,(i+m)*2,aj⟩) (n+m-(i+m)) r,.slice (aa ⟨b,i*2,aj⟩) (n+m-i) kz]).run prog w.drew= .ok (goInt ((n-i:Nat):Int)) (w.drew.setCells b ((i+m)*2) (l.drop (i*2))):=λty r kz=>
  rJ w.drew 72 72 ty 115 2 b ((i+m)*2) (n+m-(i+m)) r ⟨b,i*2,aj⟩ (n+m-i) kz (n-i) (l.drop (i*2)) underlying72 C (by simp only[Nat.min_def];split<;>omega) B
   (λj v o=>by rw[Addr.add_lit];exact X (i*2+j) v (by rwa [gq] at o))
   (λj o=>q _ O) (λj o=>z _) λv bZ=>g v (fN bZ)
 obtain⟨D,a⟩: ∃D,D=w.drew.setCells b ((i+m)*2) (l.drop (i*2)):=⟨_,rfl⟩
 have F: ∀k,k<(n+m)*2->(D.cell? ⟨b,k,aj⟩).isSome=ab:=λk hk=>by
  rw[a];exact DZ b (l.drop (i*2)) ((i+m)*2) w.drew (λj o=>q _ (by rw[B] at o;omega)) k (q k hk)
 have H: ∀(W:World),(∀x,W.cell? x=D.cell? x)->(∀x,W.frozen? x=D.frozen? x)-> ∀ty r,(Builtin.copy_ #[72,72] ty #[.slice (aa ⟨b,i*2,aj⟩) (n+m-i) r,.slice (aa ⟨d,0,aj⟩) m s]).run prog W= .ok (goInt m) (W.setCells b (i*2) vs):=λW K U ty r=>
  rJ W 72 72 ty 115 2 b (i*2) (n+m-i) r ⟨d,0,aj⟩ m s m vs underlying72 C (by simp only[Nat.min_def];split<;>omega) R
   (λj v o=>by
    rw[Addr.add_lit,dI,K,a,World.cell?_setCells_out b _ _ _ _ λh _=>bs h y];exact f j v o)
   (λj o=>by rw[K];exact F _ O) (λj o=>by rw[U,a,World.frozen?_setCells];exact z _) t
 rw[<-a] at p
 go_enter func156,Tryz.ntmps156
 go_wp2_with (simp only[P])
 go_region_law (refine Ee rfl _ _ 72 72 rfl _ _ (by simp[Act.eval,Act.put]) (by simp[Act.eval,Act.put]) (p _ _ _) ?_)
 go_wp2_with (at_builtin;refine vD _ rfl _ _ 72 72 rfl _ _ rfl rfl (H _ (λ_=>rfl) (λ_=>rfl) _ _) ?_)
 go_ret
 first|exact⟨rfl,rfl⟩|exact⟨rfl,by rw[a]⟩
open Go.RowKit Go.Lib in
set_option maxHeartbeats 4000000 in
set_option maxRecDepth 100000 in
theorem Xo(b n c i y m S:Nat)(k l:List Value)(w:World)(aJ:i<n)(hm:0<m)(aiH:n<=c)(C:c<n+m)(D:TypeInfo)(z:Value)(Q:prog.info? 115=aa D)(T:D.zero=aa z)(R:D.size=2)(U:z.cells.size=2)(hle:n+m<=1000000000)(X:(n+m)*D.bytes<=140737488355328)
  (V:k.length=n*2) (f:l.length=m*2)
  (F: ∀j v,k[j]? =aa v->w.cell? ⟨b,j,aj⟩=aa v)
  (g: ∀j v,l[j]? =aa v->w.cell? ⟨y,j,aj⟩=aa v) (Y: ∀v∈k,v.oneCell'=ab) (pV: ∀v∈l,v.oneCell'=ab):
  Calls prog 156 #[.slice (aa ⟨b,0,aj⟩) n c,.int .i64 i,.slice (aa ⟨y,0,aj⟩) m S] w λe w'=>
   e= .returned (.slice (aa ⟨w.heap.size,0,aj⟩) (n+m) (grownCap w (n+m) c 115))/\
   w'=(((w.alloc (.cells ((k.take (i*2)).toArray++ea z.cells (n+m-i)++ea z.cells (grownCap w (n+m) c 115-(n+m))) 115)).drew.setCells w.heap.size (i*2) l).drew).setCells w.heap.size ((i+m)*2) (k.drop (i*2)):=by
 have hz1: ¬((m:Int)=0):=O
 have hz2: ¬((i:Int)=(n:Int)):=O
 have ajp:(c:Int)<(n:Int)+(m:Int):=O
 have u:(prog.info? 115).map (·.size)=aa 2:=by rw[Q];simp[R]
 have J5:b<w.heap.size:=block_lt_of_cell (F 0 _ (bu O));have Kr:y<w.heap.size:=block_lt_of_cell (g 0 _ (bu O));have E:(n:Int)+(m:Int)-(i:Int)=((n+m-i:Nat):Int):=O
 have H:i+(n+m-i)=n+m:=O
 have A:(Builtin.firstCells D.size i (.slice (aa ⟨b,0,aj⟩) i c)).run prog w.drew= .ok (k.take (i*2)).toArray w.drew:=by
  rw[R];exact run_firstCells_some w.drew 2 i ⟨b,0,aj⟩ i c (k.take (i*2)) (by rw[c7];omega) (λj v d=>by
   rw[Addr.add_lit,dI];rw[gC] at d;split at d
   ·exact F j v d
   cases d)
 have s: ∀ty,(iX #[72,3] ty #[.slice (aa ⟨b,0,aj⟩) i c,.int .i64 ((n:Int)+(m:Int)-(i:Int))]).run prog w=
   .ok (.slice (aa ⟨w.heap.size,0,aj⟩) (n+m) (grownCap w (n+m) c 115)) (w.drew.alloc (.cells ((k.take (i*2)).toArray++ea z.cells (n+m-i)++ea z.cells (grownCap w (n+m) c 115-(n+m))) 115)):=λty=>by
  have h:=Lib.run_append_grow_zeros w 72 3 ty 115 D z .i64 .i64 underlying72 underlying3 Q T (aa ⟨b,0,aj⟩) i c (k.take (i*2)) A (n+m-i) O O O O (by
   have:=dU D.bytes (O:n+m-i<=n+m);omega) (by rw[H];exact growslice_fits C X)
  rw[H] at h;rw[E];exact h
 obtain⟨G,P⟩: ∃G,G=grownCap w (n+m) c 115:=⟨_,rfl⟩
 obtain⟨a,p⟩: ∃a:Array Value,a=(k.take (i*2)).toArray++ea z.cells (n+m-i)++ea z.cells (G-(n+m)):=⟨_,rfl⟩
 rw[<-P] at s⊢;rw[<-p] at s⊢;have J0:(n+m)*2<=a.size:=by
  rw[p];simp[ea,U];omega
 obtain⟨q,o⟩: ∃q,q=w.drew.alloc (.cells a 115):=⟨_,rfl⟩
 rw[<-o] at s;have eW: ∀j,j<(n+m)*2->(q.cell? ⟨w.heap.size,j,aj⟩).isSome=ab:=λj d=>by
  rw[o,World.cell?_alloc_at (w:=w.drew) a _ w.heap.size j rfl,h8 O];rfl
 have I: ∀j,q.frozen? ⟨w.heap.size,j,aj⟩=ak:=λj=>by rw[o];exact World.frozen?_alloc_at (w:=w.drew) a _ w.heap.size j rfl
 have JX: ∀j v,w.cell? ⟨b,j,aj⟩=aa v->q.cell? ⟨b,j,aj⟩=aa v:=λj v h=>by rw[o,World.cell?_alloc_past (w:=w.drew) _ b j J5];exact h
 have JY: ∀j v,w.cell? ⟨y,j,aj⟩=aa v->q.cell? ⟨y,j,aj⟩=aa v:=λj v h=>by rw[o,World.cell?_alloc_past (w:=w.drew) _ y j Kr];exact h
 have M: ∀(W:World),(∀x,W.cell? x=q.cell? x)->(∀x,W.frozen? x=q.frozen? x)-> ∀ty K,(Builtin.copy_ #[72,72] ty #[.slice (aa ⟨w.heap.size,i*2,aj⟩) (n+m-i) K,.slice (aa ⟨y,0,aj⟩) m S]).run prog W= .ok (goInt m) (W.setCells w.heap.size (i*2) l):=λW r L ty K=>
  rJ W 72 72 ty 115 2 w.heap.size (i*2) (n+m-i) K ⟨y,0,aj⟩ m S m l underlying72 u (by simp only[Nat.min_def];split<;>omega) f
   (λj v d=>by rw[Addr.add_lit,dI,r];exact JY _ v (g j v d))
   (λj d=>by rw[r];exact eW _ O) (λj d=>by rw[L];exact I _) pV
 have JU:n+m<=G:=by rw[P];exact grownCap_ge w _ _ _
 have ahN:G<=9223372036854775807:=by
  have:=grownCap_le_maxLen w (n+m) c 115 (by unfold maxLen;omega);rw[<-P] at this;unfold maxLen at this;omega
 have ahO: ¬(G=i):=O
 have ahP: ¬(G=i+m):=O
 have ah3: ¬(c=i):=O
 have J3:b≠w.heap.size:=O
 have N:(k.drop (i*2)).length=(n-i)*2:=by rw[fY,V];omega
 have B: ∀(W:World),(∀x,W.cell? x=(q.setCells w.heap.size (i*2) l).cell? x)->(∀x,W.frozen? x=(q.setCells w.heap.size (i*2) l).frozen? x)-> ∀ty K kz,(Builtin.copy_ #[72,72] ty #[.slice (aa ⟨w.heap.size,(i+m)*2,aj⟩) (n+m-(i+m)) K,.slice (aa ⟨b,i*2,aj⟩) (n-i) kz]).run prog W= .ok (goInt ((n-i:Nat):Int)) (W.setCells w.heap.size ((i+m)*2) (k.drop (i*2))):=λW r L ty K kz=>
  rJ W 72 72 ty 115 2 w.heap.size ((i+m)*2) (n+m-(i+m)) K ⟨b,i*2,aj⟩ (n-i) kz (n-i) (k.drop (i*2)) underlying72 u (by simp only[Nat.min_def];split<;>omega) N
   (λj v d=>by
    rw[Addr.add_lit,r,World.cell?_setCells_out _ _ _ _ _ λh _=>bs h J3];exact JX _ v (F (i*2+j) v (by rwa [gq] at d)))
   (λj d=>by rw[r];exact DZ w.heap.size l (i*2) q (λt fB=>eW _ (by rw[f] at fB;omega)) _ (eW _ (by rw[N] at d;omega)))
   (λj d=>by rw[L,World.frozen?_setCells];exact I _) λv bZ=>Y v (fN bZ)
 subst o;have JS: ∀x,((w.alloc (.cells a 115)).drew).cell? x=(w.drew.alloc (.cells a 115)).cell? x:=λx=>rfl;have JT: ∀x,((w.alloc (.cells a 115)).drew).frozen? x=(w.drew.alloc (.cells a 115)).frozen? x:=λx=>rfl;have te: ∀x,(((w.alloc (.cells a 115)).drew.setCells w.heap.size (i*2) l).drew).cell? x=((w.drew.alloc (.cells a 115)).setCells w.heap.size (i*2) l).cell? x:=λx=>rfl;have tf: ∀x,(((w.alloc (.cells a 115)).drew.setCells w.heap.size (i*2) l).drew).frozen? x=((w.drew.alloc (.cells a 115)).setCells w.heap.size (i*2) l).frozen? x:=λx=>rfl;have lC:IntKind.i64.wrap ((i:Int)+(m:Int))=(i:Int)+(m:Int):=by rw[IntKind.wrap_i64];omega
 have k2:(0:Int)<=(i:Int)+(m:Int):=O
 have k4:i<=n:=O
 have Kn:((i:Int)+(m:Int)).toNat=i+m:=O
 have yX:(i:Int)<=(n:Int):=O
 clear E H A p P J0
 go_enter func156,Tryz.ntmps156
 go_wp2_with (first
  |(at_builtin;refine Lib.wpList_append_run _ rfl _ _ _ _ rfl _ _ rfl rfl _ _ (s _) ?_)
  |(at_builtin;refine vD _ rfl _ _ 72 72 rfl _ _ rfl rfl (M _ JS JT _ _) ?_)
  |(at_builtin;refine vD _ rfl _ _ 72 72 rfl _ _ rfl rfl (B _ (λ_=>rfl) (λ_=>rfl) _ _ _) ?_))
 go_region_law (refine Ee rfl _ _ 72 72 rfl (.slice (aa ⟨w.heap.size,(i+m)*2,aj⟩) (n+m-(i+m)) (G-(i+m))) (.slice (aa ⟨b,i*2,aj⟩) (n-i) (c-i)) (by simp[Act.eval,Act.put]) (by simp[Act.eval,Act.put]) (B _ te tf 3 (G-(i+m)) (c-i)) ?_)
 go_wp2
 go_ret
 exact⟨rfl,rfl⟩
open Go.RowKit Go.Lib in
set_option maxHeartbeats 4000000 in
set_option maxRecDepth 100000 in
theorem Xm(b d:Option Addr)(n c i h:Nat)(w:World)(p:i<=n)(q:n<=c)(r:c<=9223372036854775807):Calls prog 156 #[.slice b n c,.int .i64 i,.slice d 0 h] w λe k=>e= .returned (.slice b n c)/\k=w:=by
 have l:(i:Int)<=(n:Int):=O
 go_enter func156,Tryz.ntmps156
 cases b with
 |none=>
  go_wp2
  go_ret
  exact⟨rfl,rfl⟩
 |some a=>
  obtain⟨s,x,m⟩:=a;by_cases o:c=i
  ·go_wp2
   go_ret
   exact⟨rfl,rfl⟩
  go_wp2
  go_ret
  exact⟨rfl,rfl⟩
open Go.RowKit Go.Lib in
set_option maxHeartbeats 4000000 in
set_option maxRecDepth 100000 in
theorem Xi(b d:Option Addr)(n c m i:Nat)(w:World)(k:Value)(w':World)(r:0<m)(s:n<=c)(x:c<=9223372036854775807)(h:(iX #[72,72] 72 #[.slice b n c,.slice d m i]).run prog w= .ok k w'):
  Calls prog 156 #[.slice b n c,.int .i64 n,.slice d m i] w λe l=>e= .returned k/\l=w':=by
 have o: ¬((m:Int)=0):=O
 go_enter func156,Tryz.ntmps156
 cases b with
 |none=>
  go_wp2_with (at_builtin;refine Lib.wpList_append_run _ rfl _ _ _ _ rfl _ _ rfl rfl _ _ h ?_)
  go_ret
  exact⟨rfl,rfl⟩
 |some a=>
  obtain⟨y,z,p⟩:=a;by_cases q:c=n
  ·go_wp2_with (at_builtin;refine Lib.wpList_append_run _ rfl _ _ _ _ rfl _ _ rfl rfl _ _ h ?_)
   go_ret
   exact⟨rfl,rfl⟩
  go_wp2_with (at_builtin;refine Lib.wpList_append_run _ rfl _ _ _ _ rfl _ _ rfl rfl _ _ h ?_)
  go_ret
  exact⟨rfl,rfl⟩
theorem Zn{a:TypeInfo}(s:prog.info? 115=aa a)(x:a.zero=aa z)(y:a.size=2)(A:z.cells.size=2):A4 prog 156 72 115 2 a z where
 nothing:=Xm
 tail:=Xi
 room:=λb n c i B m dL cs C w D F d q H e h k K L l o p j t fM u Q R W X=>Xk b n c i B m dL cs C w D F d q H e h k K L l o p j t fM u Q R W X
 grow:=λb n c i B m dL cs C w D F f d g r e h k l o p=>Xo b n c i B m dL cs C w D F f d a z s x y A g r e h k l o p
theorem Ws(G:cN)(n:Nat)(s:List Loop)(i:Int)(v:List Loop)(c d:Nat){r:List Loop}(h:wh n s i v=aa r):
  cj G 156 [aH 115 c 2 av s,aH 115 d 2 av v] [ms 0 c 2 av s,Y i,ms 1 d 2 av v] (ms 0 (c+1) 2 av r) [aH 115 (c+1) 2 av r,aH 115 d 2 av v]:=by
 unfold wh at h;refine kp (ai ((0:Int)<=i)) (λe=>?_) λe=>?_
 ·have h:=ik e h;exact jE h
 have h:=il e h;refine kp (ai (i<=(s.length:Int))) (λl=>?_) λl=>?_
 ·have h:=ik l h;exact jE h
 have h:=il l h;have x:=fv e;have y:=fv l;obtain⟨k,rfl⟩: ∃k:Nat,i=(k:Int):=⟨i.toNat,O⟩
 simp only[Int.toNat_natCast] at h;have a:(prog.info? 115).map (λi=>(i.zero.map λz=>z.cells.size,i.size,Nat.ble i.bytes 140000))=aa (aa 2,2,ab):=J
 cases m:prog.info? 115 with
 |none=>rw[m] at a;cases a
 |some q=>
  rw[m] at a;simp only[gS,Option.some.injEq,Prod.mk.injEq] at a;obtain⟨b,p,w⟩:=a;cases o:q.zero with
  |none=>rw[o] at b;cases b
  |some z=>
   rw[o] at b;simp only[gS,Option.some.injEq] at b;refine PH ⟨_,func156,J,J⟩ (Zn m o p b) underlying72 m o b p underlying115 (by decide) (fg w) av (λ_=>rfl) s v r k c d O h
abbrev ako:List dM:=[⟨76,2,[]⟩]
theorem Wk(G:cN)(n:Nat)(c s:List Loop)(i:Int)(v:List Loop)(a b:Nat){r:List Loop}(e:(c.map av).length=(s.map av).length)(h:wh n s i v=aa r):
  cj G 156 [aH 115 a 2 av s,aH 115 b 2 av v] [ms 0 a 2 av c,Y i,ms 1 b 2 av v] (ms 0 (a+1) 2 av r) [aH 115 (a+1) 2 av r,aH 115 b 2 av v]:=by have:=Ws G n s i v a b h;show ig _ _ _ _ [V.bo 0 a 2 0 (c.map av).length,Y i,ms 1 b 2 av v] _ _;rw[e];exact this
theorem XO{p}{part}{loop}{k}{r}(h:Fq n p part loop k=aa r):ba G 69 [V.agg (b9 p),Y part,Y loop,Y k] (V.bX [V.agg (b9 r.1),aT r.2]):=by
 refine bp aQ func69 rfl λw X a=>ad a [.z (.b (ab)),.z (.b (ab)),.z (.nat 20)] (al (an h λm C h=>kp m.2 (λD=>?_) λD=>?_))
 ·have h:=ik D h;exact aE a [au (rF G n p part loop C D),.z (.nat 21)] (al (ad a (dY 14) (km (b:=ab) J (λe=>aq h▸U a aB) λe=>by cases e)))
 have h:=il D h;refine an h λi c h=>aE a [bg [] [21,22] (rD G n p part loop C D),.z (.nat 23)] (al (bW h (λx_=>bj [(3,Y k),(6,V.aS [T.int .i64 loop]),(8,V.ref 20 0),(10,V.ref 23 0),(11,V.cR 22 1 2 (0+bA part) 0),(44,aT x_)] [(20,E.cells [br,br]),(21,aH 71 1 2 a' m.1.bc),(22,E.aN ca 0 1 (m.1.parts.map ar) []),(23,E.cells [ms 21 1 2 a' m.1.bc,ms 22 1 2 ar m.1.parts])] [20,21,22,23]) (λn0 h=>bh h (λe h=>c6 a [.dt 22 24 (0+bA part) 0 (ar i)] (aL (bY ar c)) (bh h (λy h=>an h λj4 R h=>aE a ([b',b',b']++aO 4 e++[bw ar c,aK e,aI av i.nest,aK e,aK e,aK y,aK y,au (ga G R),aK y,aK y]) ⟨!j4,h,S.le.trans (yL a [.cP 22 24 (ar i) (m.1.parts.map ar)] (a4 (bG (i.nest.map av).length) (bG ca) (bY ar c) (jG ar c rfl))) (aM)⟩) λy h=>aE a ([b',b',b']++aO 4 e++[bw ar c,aK e,aI av i.nest,aK e,aK e]++aV 4 y) ⟨ab,h,S.le.trans (yL a [.cP 22 24 (ar i) (m.1.parts.map ar)] (a4 (bG (i.nest.map av).length) (bG ca) (bY ar c) (jG ar c rfl))) (aM)⟩)) λe h=>aE a ([b',b',b']++aV 7 e++dY 4) (ay h)) λnx h=>aC h (λc3 h=>aq h▸U a aB) λc3 h=>ax (al (bP h λA d W f h=>c6 a [.dt 22 24 (0+bA part) 0 (ar i),.dt 24 25 (0+bA loop) 0 (av A),.dt 24 26 (0+bA loop) 1 (av A)] (a3 (bY ar c) (bY av d) (bY av d)) (bJ a bI [bw ar c,aw (bK av d),bw av d,.z (.b ab),.z (.nat 25),.z (.nat 26),au (K' G f)] (c6 a [.cP 24 26 (av A) (i.nest.map av),.cP 24 25 (av A) (i.nest.map av),.cP 22 24 (ar i) (m.1.parts.map ar)] (a12 (bG (A.aJ.map az).length) (bG ca) (bY av d) (jG av d rfl) (bG (A.lo.map az).length) (bG ca) (bY av d) (jG av d rfl) (bG (i.nest.map av).length) (bG ca) (bY ar c) (jG ar c rfl)) (al (U a (dL (b:= !W.2.2) (λs=>?_) λs=>?_)))))))))
 ·have s:W.2.2=ak:=by simpa using s
  have h:=ik s h;exact aq h▸U a aB
 have s:W.2.2=ab:=by simpa using s
 have h:=il s h;refine ax (bP h λB g oA x h=>ad a [bg [22] [] (To G n m.1.parts part i c 1 loop 155 [T.int .i64 loop] (λj=>wk n j loop) (λj r h=>Wv G n j loop h) g x)] ?_);have l:=CL x;exact c6 a [.dt 22 36 (0+bA part) 0 (ar B),.en 36,.dq 22 ako 0] (aL (bY ar l)) (al (an h λamz t h=>aE a [aw (QV t)] (al (an h λUu u h=>an h λLf v h=>bJ a bI [bg [] [27] (tF G u),bg [] [28] (tF G v),.z (.nat 29),.z (.nat 30)] (U a (bF a [.bN 27 [] [29],.bN 28 [] [30]] (al (an h λUA I h=>an h λz2 M h=>an h λUv F h=>an h λH o h=>bJ a bI [.z (.row (ar B)),aw (bY ar l),bg [] [31] (wz G I),.z (.at 8),.z (.bN 31 [92] []),.z (.int 0),bg [] [32] (wz G M),.z (.at 4),.z (.bN 32 [96] []),.z (.int 0),aw (bK av F),bw av F,.z (.rows (H.map av)),aw (str av o)] (al (an h λz3 N h=>an h λz4 P h=>bP h λxj K L q h=>bJ a bI [.z (.row (ar B)),aw (bY ar l),bg [] [33] (wz G N),.z (.at 10),.z (.bN 33 [107] []),.z (.int 0),bg [] [34] (wz G P),.z (.at 7),.z (.bN 34 [110] []),.z (.int 0),.z (.int 1),.z (.nat 35),bg [36,35] [] (Wk G n B.nest H loop [(⟨[z3],[z4]⟩:Loop)] 1 1 (cQ av o) K),.z (.row (ar B)),aw (bY ar l)] (c6 a [.Dx 22 0 36,.gB 22 (ar B) (L.map ar),.en 22,.e6 23 1 (L.map ar).length,.bN 21 [] [23],.bN 22 [] [23]] (a3 (bY ar l) (hd ar q rfl) ((cQ ar x).trans (cQ ar q))) (an h λr7 Q h=>aq h▸ad a [au (rz G Q)] aB))))))))))))
theorem LG{s}{i}{j}(m:Nat){r}(h:wi n s i j=aa r):
  cj G 160 [aH 76 m 2 ar s] [ms 0 m 2 ar s,Y i,Y j] (ms 0 m 2 ar (r.2.take r.1)) [aH 76 m 2 ar r.2]:=by
 refine cA aQ func160 rfl λw X y c A=>U c (kp (ai ((0:Int)<=i)) (λo=>?_) λo=>?_)
 ·have h:=ik o h;exact jE h
 have h:=il o h;refine kp (ai (i<=j)) (λp=>?_) λp=>?_
 ·have h:=ik p h;exact jE h
 have h:=il p h;refine kp (ai (j<=(s.length:Int))) (λq=>?_) λq=>?_
 ·have h:=ik q h;exact jE h
 have h:=il q h;have b:=fv o;have d:=fv p;have a:=fv q;refine ad c [aI ar s,aw (ahu ar s b d a)] (al (U c (aC h (λx h=>aq h▸ad c [.z (.at 0),.z (.len 6 (bL ar (s.take s.length)).length),aw (UY ar s)] cT) λx h=>?_)));have e:i<j:=by have:=of_decide_eq_false x;omega
 refine ax (ad c [aI ar s] ?_);by_cases l:j<(s.length:Int)
 ·exact aq h▸al (bJ c bI [.z (.nat 0),.z (.nat i.toNat),.z (.nat j.toNat),.z (.nat (s.length-j.toNat)),.z (.rows (bL ar (nH s i j))),aw (R1 ar s b d a),aw (OS ar s (O:0<=j) l),aw (Vy ar s b d a),aw (Vx ar s b d a),aw (a17 ar s i j)] (ad c [.z (.nat (e5 s i j)),.z (.int 1),.z (.nat (e5 s i j)),.z (.nat (s.length-(e5 s i j))),.z (.rows (bL ar (kd s i j (⟨[],[]⟩:Part)))),aw (bG (e5 s i j)),aw (R2 ar s (nH s i j) (k:=2) (by decide) b e a (PA s b d a) rfl),aw (ahs ar s (⟨[],[]⟩:Part) b e a)] (ad c [.z (.at 0),.z (.len 6 (bL ar ((kd s i j (⟨[],[]⟩:Part)).take (e5 s i j))).length),aw (R3 ar s (⟨[],[]⟩:Part) b e a)] cT)))
 exact aq h▸al (bJ c bI [.z (.nat 0),.z (.nat i.toNat),.z (.int 0),.z (.int 0),aw (R1 ar s b d a),aw (aht ar s b d a l)] (ad c [.z (.nat (i.toNat)),.z (.int 1),.z (.nat (i.toNat)),.z (.nat (s.length-(i.toNat))),.z (.rows (bL ar (kd s i j (⟨[],[]⟩:Part)))),aw (bG (i.toNat)),aw (R2 ar s s (k:=2) (by decide) b e a rfl (R4 s a l)),aw (Vw ar s (⟨[],[]⟩:Part) b e a l)] (ad c [.z (.at 0),.z (.len 6 (bL ar ((kd s i j (⟨[],[]⟩:Part)).take (e5 s i j))).length),aw ((R4 s a l).trans (R3 ar s (⟨[],[]⟩:Part) b e a))] cT)))
theorem VW(G:cN)(n:Nat)(c:List Loop)(d:List Loop)(b:FuncId)(o:Loop->Loop->Option Bool)(i: ∀(p:Loop) (q:Loop) r,o p q=aa r->ba G b [V.agg (iM p),V.agg (iM q)] (aT r)){r:Bool}(h:KT n c d o=aa r):ba G 219 [aG av c,aG av d,V.fn b []] (aT r):=by
 refine bp aQ func219 rfl λw X a=>U a (al (ad a [aI av c,aI av d] (aC h (λs h=>?_) λs h=>?_)))
 ·cases h;exact U a aB
 refine ax (al (ad a [aI av c] (bd (cq h (λx=>b0 [(1,aG av d),(2,V.fn b []),(15,aG av c),(16,Y (c.length:Int)),(17,Y x)]) aM λe D h=>U a (cU h (λy h=>?_) λy h=>?_)))))
 ·refine ax (bC (an h λA k h=>ad a [aY av k,.z (.nat 20)] (an h λB l h=>ad a [aY av l,.z (.nat 21)] (an h λF m h=>ad a [au (i A B _ m)] (aC h (λC h=>?_) λC h=>ax (bf a (ay h)))))));cases h;exact U a aB
 cases h;exact bq (U a aB)
theorem KG(G:cN)(n:Nat)(c:List aF)(d:List aF)(b:FuncId)(o:aF->aF->Option Bool)(i: ∀(p:aF) (q:aF) r,o p q=aa r->ba G b [V.agg (cF p),V.agg (cF q)] (aT r)){r:Bool}(h:zb n c d o=aa r):ba G 221 [aG az c,aG az d,V.fn b []] (aT r):=by
 refine bp aQ func221 rfl λw X a=>U a (al (ad a [aI az c,aI az d] (aC h (λs h=>?_) λs h=>?_)))
 ·cases h;exact U a aB
 refine ax (al (ad a [aI az c] (bd (cq h (λx=>b0 [(1,aG az d),(2,V.fn b []),(15,aG az c),(16,Y (c.length:Int)),(17,Y x)]) aM λe D h=>U a (cU h (λy h=>?_) λy h=>?_)))))
 ·refine ax (bC (an h λA k h=>ad a [aY az k,.z (.nat 20)] (an h λB l h=>ad a [aY az l,.z (.nat 21)] (an h λF m h=>ad a [au (i A B _ m)] (aC h (λC h=>?_) λC h=>ax (bf a (ay h)))))));cases h;exact U a aB
 cases h;exact bq (U a aB)
theorem La(G:cN)(n:Nat)(a:aF)(b:aF){r:Bool}(h:f7 n a b=aa r):ba G 222 [V.agg (cF a),V.agg (cF b)] (aT r):=bp aQ func222 rfl λw X d=>ad d [.z (.b (ab)),.z (.b (ab))] (bW h (λi=>b0 [(4,aT i)]) (λk h=>an h λl c h=>bh h (λe h=>aE d ([au (Mi G n a.aU b.aU c)]++aO 6 e) (ay h)) λe h=>aE d ([au (Mi G n a.aU b.aU c)]++aV 6 e) (ay h)) λm h=>aq h▸aB)
theorem XI(G:cN)(n:Nat)(x:Loop)(y:Loop){r:Bool}(h:zK n x y=aa r):ba G 220 [V.agg (iM x),V.agg (iM y)] (aT r):=bp aQ func220 rfl λw X i=>ad i [.z (.b (ab)),.z (.b (ab))] (bW h (λl=>b0 [(4,aT l)]) (λm h=>an h λo d h=>bh h (λe h=>aE i ([au (KG G n x.lo y.lo 222 (λa c=>f7 n a c) (λa c r h=>La G n a c h) d)]++aO 6 e) (ay h)) λe h=>an h λp k h=>aE i ([au (KG G n x.lo y.lo 222 (λa c=>f7 n a c) (λa c r h=>La G n a c h) d)]++aV 5 e++[au (KG G n x.aJ y.aJ 222 (λa c=>f7 n a c) (λa c r h=>La G n a c h) k),aX e]) (ay h)) λq h=>aq h▸aB)
theorem Zd{a}{b}{r}(h:AV n a b=aa r):ba G 157 [aG av a,aG av b] (aT r):=bp aQ func157 rfl λw X i=>U i (an h λk c h=>aq h▸ad i [au (VW G n a b 220 (λd e=>zK n d e) (λd e r h=>XI G n d e h) c)] aB)
theorem ZU{p}{q}{r}(h:Bx n p q=aa r):ba G 159 [aG ah p,aG ah q] (aT r):=bp aQ func159 rfl λw X b=>U b (an h λc a h=>aq h▸ad b [au (Wt G a)] aB)
theorem afv{i:Int}{x y:a}(h:aD l i=aa x)(k:aD l (wr (i+1))=aa y):0+bA (wr (i+1))≠0+bA i:=by have c:=(na h).1;have b:=(na k).1;have e:wr (i+1)=_:=IntKind.wrap_i64 (i+1);rw[e] at b⊢;omega
def D6:List dM:=[⟨76,2,[]⟩]
theorem XV{p}{part}{r}(h:Fy n p part=aa r):ba G 70 [V.agg (b9 p),Y part] (V.bX [V.agg (b9 r.1),aT r.2]):=by
 refine bp aQ func70 rfl λw X a=>ad a [.z (.b (ab)),.z (.nat 20)] (al (an h λe x h=>kp e.2 (λy=>?_) λy=>?_))
 ·have h:=ik y h;exact aE a [au (rF G n p part (-1) x y),.z (.nat 21)] (al (al (bJ a bI (dY 21) (km (b:=ab) J (λl=>aq h▸U a aB) λl=>by cases l))))
 have h:=il y h;refine an h λd c h=>aE a [bg [] [21,22] (rD G n p part (-1) x y),.z (.nat 23)] (c6 a [.dt 22 24 (0+bA part) 1 (ar d),.en 24,.dq 22 D6 0] (aL (bY ar c)) (al (bW h (λA=>bj [(1,Y part),(2,V.aS (eh p)),(4,V.ref 20 0),(6,V.ref 23 0),(7,V.cR 22 1 2 (0+bA part) 0),(46,aT A)] [(20,E.cells [br,br]),(21,aH 71 1 2 a' e.1.bc),(22,E.aN D6 0 1 (e.1.parts.map ar) [((0+bA part),1,ms 24 1 9 aA d.body)]),(23,E.cells [ms 21 1 2 a' e.1.bc,ms 22 1 2 ar e.1.parts]),(24,aH 86 1 9 aA d.body)] [20,21,22,23,24]) (λn0 h=>bh h (λl h=>bP h λj4 j nx u h=>bJ a bI (eJ 5++[aI ar p.parts,b',b']++aO 4 l++[bw ar c]++aO 5 l++[aY ar j]++aO 3 l++[au (Zd G u),aK l,aK l]) (ay h)) λl h=>bJ a bI (eJ 5++[aI ar p.parts,b',b']++aV 14 l) (ay h)) λsb h=>aC h (λc3 h=>aq h▸U a aB) λc3 h=>ax (al (an h λB C h=>bh h (λI h=>aE a [.z (.v (V.bX [V.t T.gM,aT B.2])),aw (xh I (i8 G C))] (al (al (jE h)))) λI h=>aE a [.z (.v (V.bX [V.aS (eA (B.1.getD default)),aT B.2])),aw (xi I (i8 G C))] (al (an h λq M h=>ad a [bg [] [25] (K1 G M),aI di q] (bd (cq h (λA=>bj [(1,Y part),(4,V.ref 20 0),(6,V.ref 23 0),(7,V.cR 22 1 2 (0+bA part) 0),(9,V.aS (eA (B.1.getD default))),(54,ms 25 1 3 di q),(55,Y (q.length:Int)),(56,Y A)] [(20,E.cells [br,br]),(21,aH 71 1 2 a' e.1.bc),(22,E.aN D6 0 1 (e.1.parts.map ar) [((0+bA part),1,ms 24 1 9 aA d.body)]),(23,E.cells [ms 21 1 2 a' e.1.bc,ms 22 1 2 ar e.1.parts]),(24,aH 86 1 9 aA d.body),(25,aH 141 1 3 di q)] [20,21,22,23,24,25]) aM λW kH h=>U a (cU h (λc5 h=>ax (bC (an h λs m h=>ad a [aw (bK di m),bw di m,.z (.nat 26)] (al (bP h λN D P F h=>bJ a bI [aY cJ D,aY cJ F,.z (.nat 27),.z (.nat 28)] (bW h (λA=>bj [(1,Y part),(4,V.ref 20 0),(6,V.ref 23 0),(7,V.cR 22 1 2 (0+bA part) 0),(9,V.aS (eA (B.1.getD default))),(54,ms 25 1 3 di q),(55,Y (q.length:Int)),(56,Y kH),(93,aT A)] [(20,E.cells [br,br]),(21,aH 71 1 2 a' e.1.bc),(22,E.aN D6 0 1 (e.1.parts.map ar) [((0+bA part),1,ms 24 1 9 aA d.body)]),(23,E.cells [ms 21 1 2 a' e.1.bc,ms 22 1 2 ar e.1.parts]),(24,aH 86 1 9 aA d.body),(25,aH 141 1 3 di q),(26,E.cells [Y s.eV,Y s.eX,Y s.kinds]),(27,E.cells (j0 N)),(28,E.cells (j0 P))] [20,21,22,23,24,25,26,27,28]) (λajD h=>bh h (λf h=>aE a (aO 6 f++eJ 6) (ay h)) λf h=>bh h (λg h=>aE a (aV 6 f++aO 6 g) (ay h)) λg h=>an h λr8 H h=>aE a (aV 6 f++aV 5 g++[au (ZU G H),aX g]) (ay h)) λr9 h=>aC h (λiF h=>aq h▸U a aB) λiF h=>ax (bf a (ay h)))))))) λc5 h=>bq (al (cW h λS i px K L o h=>bP h λk Q qA R h=>?_))))))))))));have hne:0+bA (wr (part+1))≠0+bA part:=afv c i;exact aq h▸bJ a bI [bw ar c,.z (.nat 0),aw (bK ar i),bw ar i,aw hne,b2 (cy aA K),bQ 9 gx d.body,bQ 9 gx S.body,bw ar c] (c6 a [.Dx 22 0 24,.gB 22 (ar d) (L.map ar),.en 22,.e6 23 1 (L.map ar).length] (a3 (bY ar c) (hd ar o rfl) (cQ ar o)) (ad a [bg [22] [] (LG G 1 Q),.z (.cut 22 k.1 (bL ar (k.2.take k.1))),aw (Mc ar k.2 k.1)] (bF a [.bN 21 [] [23],.bN 22 [] [23]] (ad a [au (rz G R)] aB))))
theorem Xz{s}{r}(h:FF n s=aa r):cj G 161 [] [aG aA s] (ms 0 1 9 aA r) [aH 86 1 9 aA r]:=cA aQ func161 rfl λw X e a k=>U a (al (al (bh h (λd h=>aE a [.z (.b ak),aw (akp aA d)] (km (b:=ak) J (λi=>bs (i.symm.trans (bG ak)) (by decide)) λ_=>(ax (an h λl c h=>aq h▸ad a [.z (.nat 20),b2 (cy aA c),bQ 9 gx [],bQ 9 gx s] (eu a 2 20))))) λd h=>jE h)))
open Go.RowKit Go.Lib in
set_option maxHeartbeats 4000000 in
set_option maxRecDepth 100000 in
theorem Xj(b n c i d m s:Nat)(l vs:List Value)(w:World)(aJ:i<n)(hm:0<m)(L:n+m<=c)(V:c<=9223372036854775807)(y:d≠b)
  (Q:l.length=n*2) (R:vs.length=m*2)
  (X: ∀j v,l[j]? =aa v->w.cell? ⟨b,j,aj⟩=aa v) (q: ∀j,j<(n+m)*2->(w.cell? ⟨b,j,aj⟩).isSome=ab) (z: ∀j,w.frozen? ⟨b,j,aj⟩=ak)
  (f: ∀j v,vs[j]? =aa v->w.cell? ⟨d,j,aj⟩=aa v) (g: ∀v∈l,v.oneCell'=ab) (t: ∀v∈vs,v.oneCell'=ab)
  (Y uc:TypeId) (u E:Nat) (I:w.shape? d=aa (Y,u)) (M:w.shape? b=aa (uc,E)) (N:E≠0) (A: ∀j,w.frozen? ⟨d,j,aj⟩=ak):
  Calls prog 162 #[.slice (aa ⟨b,0,aj⟩) n c,.int .i64 i,.slice (aa ⟨d,0,aj⟩) m s] w λe w'=>
   e= .returned (.slice (aa ⟨b,0,aj⟩) (n+m) c)/\w'=(w.drew.setCells b ((i+m)*2) (l.drop (i*2))).setCells b (i*2) vs:=by
 have hz1: ¬((m:Int)=0):=O
 have hz2: ¬((i:Int)=(n:Int)):=O
 have lC:IntKind.i64.wrap ((i:Int)+(m:Int))=(i:Int)+(m:Int):=by rw[IntKind.wrap_i64];omega
 have k2:(0:Int)<=(i:Int)+(m:Int):=O
 have k4:i<=n:=O
 have Kn:((i:Int)+(m:Int)).toNat=i+m:=O
 have vN: ¬(c=i+m):=O
 have yX:(i:Int)<=(n:Int)+(m:Int):=O
 have ah0: ¬(c=i):=O
 have P: ∀S T,(callFunc 225 #[.slice (aa ⟨d,0,aj⟩) m s,.slice (aa ⟨b,(i+m)*2,aj⟩) S T]).run prog w= .ok (.value (.bool ak)) w:=λS T=>by
  rw[run_callFunc_extern func225 J J J (e:=Extern.SlicesOverlaps.overlaps #[28,28] #[4]) J,
   Lib.run_overlaps_apart w 28 4 76 underlying28 2 sizeOf76 ⟨d,0,aj⟩ ⟨b,(i+m)*2,aj⟩ m s S T y Y uc u E I M N (A 0) (A u)]
  rfl
 have B:(l.drop (i*2)).length=(n-i)*2:=by rw[fY,Q];omega
 have C:(prog.info? 76).map (·.size)=aa 2:=J
 have p: ∀ty r kz,(Builtin.copy_ #[28,28] ty #[.slice (aa ⟨b,(i+m)*2,aj⟩) (n+m-(i+m)) r,.slice (aa ⟨b,i*2,aj⟩) (n+m-i) kz]).run prog w.drew= .ok (goInt ((n-i:Nat):Int)) (w.drew.setCells b ((i+m)*2) (l.drop (i*2))):=λty r kz=>
  rJ w.drew 28 28 ty 76 2 b ((i+m)*2) (n+m-(i+m)) r ⟨b,i*2,aj⟩ (n+m-i) kz (n-i) (l.drop (i*2)) underlying28 C (by simp only[Nat.min_def];split<;>omega) B
   (λj v o=>by rw[Addr.add_lit];exact X (i*2+j) v (by rwa [gq] at o))
   (λj o=>q _ O) (λj o=>z _) λv bZ=>g v (fN bZ)
 obtain⟨D,a⟩: ∃D,D=w.drew.setCells b ((i+m)*2) (l.drop (i*2)):=⟨_,rfl⟩
 have F: ∀k,k<(n+m)*2->(D.cell? ⟨b,k,aj⟩).isSome=ab:=λk hk=>by
  rw[a];exact DZ b (l.drop (i*2)) ((i+m)*2) w.drew (λj o=>q _ (by rw[B] at o;omega)) k (q k hk)
 have H: ∀(W:World),(∀x,W.cell? x=D.cell? x)->(∀x,W.frozen? x=D.frozen? x)-> ∀ty r,(Builtin.copy_ #[28,28] ty #[.slice (aa ⟨b,i*2,aj⟩) (n+m-i) r,.slice (aa ⟨d,0,aj⟩) m s]).run prog W= .ok (goInt m) (W.setCells b (i*2) vs):=λW K U ty r=>
  rJ W 28 28 ty 76 2 b (i*2) (n+m-i) r ⟨d,0,aj⟩ m s m vs underlying28 C (by simp only[Nat.min_def];split<;>omega) R
   (λj v o=>by
    rw[Addr.add_lit,dI,K,a,World.cell?_setCells_out b _ _ _ _ λh _=>bs h y];exact f j v o)
   (λj o=>by rw[K];exact F _ O) (λj o=>by rw[U,a,World.frozen?_setCells];exact z _) t
 rw[<-a] at p
 go_enter func162,Tryz.ntmps162
 go_wp2_with (simp only[P])
 go_region_law (refine Ee rfl _ _ 28 28 rfl _ _ (by simp[Act.eval,Act.put]) (by simp[Act.eval,Act.put]) (p _ _ _) ?_)
 go_wp2_with (at_builtin;refine vD _ rfl _ _ 28 28 rfl _ _ rfl rfl (H _ (λ_=>rfl) (λ_=>rfl) _ _) ?_)
 go_ret
 first|exact⟨rfl,rfl⟩|exact⟨rfl,by rw[a]⟩
open Go.RowKit Go.Lib in
set_option maxHeartbeats 4000000 in
set_option maxRecDepth 100000 in
theorem Xn(b n c i y m S:Nat)(k l:List Value)(w:World)(aJ:i<n)(hm:0<m)(aiH:n<=c)(C:c<n+m)(D:TypeInfo)(z:Value)(Q:prog.info? 76=aa D)(T:D.zero=aa z)(R:D.size=2)(U:z.cells.size=2)(hle:n+m<=1000000000)(X:(n+m)*D.bytes<=140737488355328)
  (V:k.length=n*2) (f:l.length=m*2)
  (F: ∀j v,k[j]? =aa v->w.cell? ⟨b,j,aj⟩=aa v)
  (g: ∀j v,l[j]? =aa v->w.cell? ⟨y,j,aj⟩=aa v) (Y: ∀v∈k,v.oneCell'=ab) (pV: ∀v∈l,v.oneCell'=ab):
  Calls prog 162 #[.slice (aa ⟨b,0,aj⟩) n c,.int .i64 i,.slice (aa ⟨y,0,aj⟩) m S] w λe w'=>
   e= .returned (.slice (aa ⟨w.heap.size,0,aj⟩) (n+m) (grownCap w (n+m) c 76))/\
   w'=(((w.alloc (.cells ((k.take (i*2)).toArray++ea z.cells (n+m-i)++ea z.cells (grownCap w (n+m) c 76-(n+m))) 76)).drew.setCells w.heap.size (i*2) l).drew).setCells w.heap.size ((i+m)*2) (k.drop (i*2)):=by
 have hz1: ¬((m:Int)=0):=O
 have hz2: ¬((i:Int)=(n:Int)):=O
 have ajp:(c:Int)<(n:Int)+(m:Int):=O
 have u:(prog.info? 76).map (·.size)=aa 2:=by rw[Q];simp[R]
 have J5:b<w.heap.size:=block_lt_of_cell (F 0 _ (bu O));have Kr:y<w.heap.size:=block_lt_of_cell (g 0 _ (bu O));have E:(n:Int)+(m:Int)-(i:Int)=((n+m-i:Nat):Int):=O
 have H:i+(n+m-i)=n+m:=O
 have A:(Builtin.firstCells D.size i (.slice (aa ⟨b,0,aj⟩) i c)).run prog w.drew= .ok (k.take (i*2)).toArray w.drew:=by
  rw[R];exact run_firstCells_some w.drew 2 i ⟨b,0,aj⟩ i c (k.take (i*2)) (by rw[c7];omega) (λj v d=>by
   rw[Addr.add_lit,dI];rw[gC] at d;split at d
   ·exact F j v d
   cases d)
 have s: ∀ty,(iX #[28,3] ty #[.slice (aa ⟨b,0,aj⟩) i c,.int .i64 ((n:Int)+(m:Int)-(i:Int))]).run prog w=
   .ok (.slice (aa ⟨w.heap.size,0,aj⟩) (n+m) (grownCap w (n+m) c 76)) (w.drew.alloc (.cells ((k.take (i*2)).toArray++ea z.cells (n+m-i)++ea z.cells (grownCap w (n+m) c 76-(n+m))) 76)):=λty=>by
  have h:=Lib.run_append_grow_zeros w 28 3 ty 76 D z .i64 .i64 underlying28 underlying3 Q T (aa ⟨b,0,aj⟩) i c (k.take (i*2)) A (n+m-i) O O O O (by
   have:=dU D.bytes (O:n+m-i<=n+m);omega) (by rw[H];exact growslice_fits C X)
  rw[H] at h;rw[E];exact h
 obtain⟨G,P⟩: ∃G,G=grownCap w (n+m) c 76:=⟨_,rfl⟩
 obtain⟨a,p⟩: ∃a:Array Value,a=(k.take (i*2)).toArray++ea z.cells (n+m-i)++ea z.cells (G-(n+m)):=⟨_,rfl⟩
 rw[<-P] at s⊢;rw[<-p] at s⊢;have J0:(n+m)*2<=a.size:=by
  rw[p];simp[ea,U];omega
 obtain⟨q,o⟩: ∃q,q=w.drew.alloc (.cells a 76):=⟨_,rfl⟩
 rw[<-o] at s;have eW: ∀j,j<(n+m)*2->(q.cell? ⟨w.heap.size,j,aj⟩).isSome=ab:=λj d=>by
  rw[o,World.cell?_alloc_at (w:=w.drew) a _ w.heap.size j rfl,h8 O];rfl
 have I: ∀j,q.frozen? ⟨w.heap.size,j,aj⟩=ak:=λj=>by rw[o];exact World.frozen?_alloc_at (w:=w.drew) a _ w.heap.size j rfl
 have JX: ∀j v,w.cell? ⟨b,j,aj⟩=aa v->q.cell? ⟨b,j,aj⟩=aa v:=λj v h=>by rw[o,World.cell?_alloc_past (w:=w.drew) _ b j J5];exact h
 have JY: ∀j v,w.cell? ⟨y,j,aj⟩=aa v->q.cell? ⟨y,j,aj⟩=aa v:=λj v h=>by rw[o,World.cell?_alloc_past (w:=w.drew) _ y j Kr];exact h
 have M: ∀(W:World),(∀x,W.cell? x=q.cell? x)->(∀x,W.frozen? x=q.frozen? x)-> ∀ty K,(Builtin.copy_ #[28,28] ty #[.slice (aa ⟨w.heap.size,i*2,aj⟩) (n+m-i) K,.slice (aa ⟨y,0,aj⟩) m S]).run prog W= .ok (goInt m) (W.setCells w.heap.size (i*2) l):=λW r L ty K=>
  rJ W 28 28 ty 76 2 w.heap.size (i*2) (n+m-i) K ⟨y,0,aj⟩ m S m l underlying28 u (by simp only[Nat.min_def];split<;>omega) f
   (λj v d=>by rw[Addr.add_lit,dI,r];exact JY _ v (g j v d))
   (λj d=>by rw[r];exact eW _ O) (λj d=>by rw[L];exact I _) pV
 have JU:n+m<=G:=by rw[P];exact grownCap_ge w _ _ _
 have ahN:G<=9223372036854775807:=by
  have:=grownCap_le_maxLen w (n+m) c 76 (by unfold maxLen;omega);rw[<-P] at this;unfold maxLen at this;omega
 have ahO: ¬(G=i):=O
 have ahP: ¬(G=i+m):=O
 have ah3: ¬(c=i):=O
 have J3:b≠w.heap.size:=O
 have N:(k.drop (i*2)).length=(n-i)*2:=by rw[fY,V];omega
 have B: ∀(W:World),(∀x,W.cell? x=(q.setCells w.heap.size (i*2) l).cell? x)->(∀x,W.frozen? x=(q.setCells w.heap.size (i*2) l).frozen? x)-> ∀ty K kz,(Builtin.copy_ #[28,28] ty #[.slice (aa ⟨w.heap.size,(i+m)*2,aj⟩) (n+m-(i+m)) K,.slice (aa ⟨b,i*2,aj⟩) (n-i) kz]).run prog W= .ok (goInt ((n-i:Nat):Int)) (W.setCells w.heap.size ((i+m)*2) (k.drop (i*2))):=λW r L ty K kz=>
  rJ W 28 28 ty 76 2 w.heap.size ((i+m)*2) (n+m-(i+m)) K ⟨b,i*2,aj⟩ (n-i) kz (n-i) (k.drop (i*2)) underlying28 u (by simp only[Nat.min_def];split<;>omega) N
   (λj v d=>by
    rw[Addr.add_lit,r,World.cell?_setCells_out _ _ _ _ _ λh _=>bs h J3];exact JX _ v (F (i*2+j) v (by rwa [gq] at d)))
   (λj d=>by rw[r];exact DZ w.heap.size l (i*2) q (λt fB=>eW _ (by rw[f] at fB;omega)) _ (eW _ (by rw[N] at d;omega)))
   (λj d=>by rw[L,World.frozen?_setCells];exact I _) λv bZ=>Y v (fN bZ)
 subst o;have JS: ∀x,((w.alloc (.cells a 76)).drew).cell? x=(w.drew.alloc (.cells a 76)).cell? x:=λx=>rfl;have JT: ∀x,((w.alloc (.cells a 76)).drew).frozen? x=(w.drew.alloc (.cells a 76)).frozen? x:=λx=>rfl;have te: ∀x,(((w.alloc (.cells a 76)).drew.setCells w.heap.size (i*2) l).drew).cell? x=((w.drew.alloc (.cells a 76)).setCells w.heap.size (i*2) l).cell? x:=λx=>rfl;have tf: ∀x,(((w.alloc (.cells a 76)).drew.setCells w.heap.size (i*2) l).drew).frozen? x=((w.drew.alloc (.cells a 76)).setCells w.heap.size (i*2) l).frozen? x:=λx=>rfl;have lC:IntKind.i64.wrap ((i:Int)+(m:Int))=(i:Int)+(m:Int):=by rw[IntKind.wrap_i64];omega
 have k2:(0:Int)<=(i:Int)+(m:Int):=O
 have k4:i<=n:=O
 have Kn:((i:Int)+(m:Int)).toNat=i+m:=O
 have yX:(i:Int)<=(n:Int):=O
 clear E H A p P J0
 go_enter func162,Tryz.ntmps162
 go_wp2_with (first
  |(at_builtin;refine Lib.wpList_append_run _ rfl _ _ _ _ rfl _ _ rfl rfl _ _ (s _) ?_)
  |(at_builtin;refine vD _ rfl _ _ 28 28 rfl _ _ rfl rfl (M _ JS JT _ _) ?_)
  |(at_builtin;refine vD _ rfl _ _ 28 28 rfl _ _ rfl rfl (B _ (λ_=>rfl) (λ_=>rfl) _ _ _) ?_))
 go_region_law (refine Ee rfl _ _ 28 28 rfl (.slice (aa ⟨w.heap.size,(i+m)*2,aj⟩) (n+m-(i+m)) (G-(i+m))) (.slice (aa ⟨b,i*2,aj⟩) (n-i) (c-i)) (by simp[Act.eval,Act.put]) (by simp[Act.eval,Act.put]) (B _ te tf 3 (G-(i+m)) (c-i)) ?_)
 go_wp2
 go_ret
 exact⟨rfl,rfl⟩
open Go.RowKit Go.Lib in
set_option maxHeartbeats 4000000 in
set_option maxRecDepth 100000 in
theorem Xl(b d:Option Addr)(n c i h:Nat)(w:World)(p:i<=n)(q:n<=c)(r:c<=9223372036854775807):Calls prog 162 #[.slice b n c,.int .i64 i,.slice d 0 h] w λe k=>e= .returned (.slice b n c)/\k=w:=by
 have l:(i:Int)<=(n:Int):=O
 go_enter func162,Tryz.ntmps162
 cases b with
 |none=>
  go_wp2
  go_ret
  exact⟨rfl,rfl⟩
 |some a=>
  obtain⟨s,x,m⟩:=a;by_cases o:c=i
  ·go_wp2
   go_ret
   exact⟨rfl,rfl⟩
  go_wp2
  go_ret
  exact⟨rfl,rfl⟩
open Go.RowKit Go.Lib in
set_option maxHeartbeats 4000000 in
set_option maxRecDepth 100000 in
theorem Xh(b d:Option Addr)(n c m i:Nat)(w:World)(k:Value)(w':World)(r:0<m)(s:n<=c)(x:c<=9223372036854775807)(h:(iX #[28,28] 28 #[.slice b n c,.slice d m i]).run prog w= .ok k w'):
  Calls prog 162 #[.slice b n c,.int .i64 n,.slice d m i] w λe l=>e= .returned k/\l=w':=by
 have o: ¬((m:Int)=0):=O
 go_enter func162,Tryz.ntmps162
 cases b with
 |none=>
  go_wp2_with (at_builtin;refine Lib.wpList_append_run _ rfl _ _ _ _ rfl _ _ rfl rfl _ _ h ?_)
  go_ret
  exact⟨rfl,rfl⟩
 |some a=>
  obtain⟨y,z,p⟩:=a;by_cases q:c=n
  ·go_wp2_with (at_builtin;refine Lib.wpList_append_run _ rfl _ _ _ _ rfl _ _ rfl rfl _ _ h ?_)
   go_ret
   exact⟨rfl,rfl⟩
  go_wp2_with (at_builtin;refine Lib.wpList_append_run _ rfl _ _ _ _ rfl _ _ rfl rfl _ _ h ?_)
  go_ret
  exact⟨rfl,rfl⟩
theorem Zm{a:TypeInfo}(s:prog.info? 76=aa a)(x:a.zero=aa z)(y:a.size=2)(A:z.cells.size=2):A4 prog 162 28 76 2 a z where
 nothing:=Xl
 tail:=Xh
 room:=λb n c i B m dL cs C w D F d q H e h k K L l o p j t fM u Q R W X=>Xj b n c i B m dL cs C w D F d q H e h k K L l o p j t fM u Q R W X
 grow:=λb n c i B m dL cs C w D F f d g r e h k l o p=>Xn b n c i B m dL cs C w D F f d a z s x y A g r e h k l o p
theorem LF(G:cN)(n:Nat)(s:List Part)(i:Int)(v:List Part)(c d:Nat){r:List Part}(h:wg n s i v=aa r):
  cj G 162 [aH 76 c 2 ar s,aH 76 d 2 ar v] [ms 0 c 2 ar s,Y i,ms 1 d 2 ar v] (ms 0 (c+1) 2 ar r) [aH 76 (c+1) 2 ar r,aH 76 d 2 ar v]:=by
 unfold wg at h;refine kp (ai ((0:Int)<=i)) (λe=>?_) λe=>?_
 ·have h:=ik e h;exact jE h
 have h:=il e h;refine kp (ai (i<=(s.length:Int))) (λl=>?_) λl=>?_
 ·have h:=ik l h;exact jE h
 have h:=il l h;have x:=fv e;have y:=fv l;obtain⟨k,rfl⟩: ∃k:Nat,i=(k:Int):=⟨i.toNat,O⟩
 simp only[Int.toNat_natCast] at h;have a:(prog.info? 76).map (λi=>(i.zero.map λz=>z.cells.size,i.size,Nat.ble i.bytes 140000))=aa (aa 2,2,ab):=J
 cases m:prog.info? 76 with
 |none=>rw[m] at a;cases a
 |some q=>
  rw[m] at a;simp only[gS,Option.some.injEq,Prod.mk.injEq] at a;obtain⟨b,p,w⟩:=a;cases o:q.zero with
  |none=>rw[o] at b;cases b
  |some z=>
   rw[o] at b;simp only[gS,Option.some.injEq] at b;refine PH ⟨_,func162,J,J⟩ (Zm m o p b) underlying28 m o b p underlying76 (by decide) (fg w) ar (λ_=>rfl) s v r k c d O h
theorem V0{p}{part}{c}{r}(h:D3 n p part c=aa r):ba G 71 [V.agg (b9 p),Y part,Y c] (V.bX [V.agg (b9 r.1),aT r.2]):=by
 refine bp aQ func71 rfl λw X a=>ad a [.z (.b (ab)),.z (.nat 20)] (al (an h λe o h=>kp e.2 (λq=>?_) λq=>?_))
 ·have h:=ik q h;exact aE a [au (rF G n p part (-1) o q),.z (.nat 21)] (al (ad a (dY 10) (km (b:=ab) J (λW=>aq h▸U a aB) λW=>by cases W)))
 have h:=il q h;exact an h λk d h=>aE a [bg [] [21,22] (rD G n p part (-1) o q),.z (.nat 23)] (bF a [.en 22] (al (bW h (λs=>bj [(1,Y part),(2,Y c),(3,V.aS (eh p)),(6,V.ref 20 0),(8,V.ref 23 0),(9,V.cR 22 1 2 (0+bA part) 0),(37,aT s)] [(20,E.cells [br,br]),(21,aH 71 1 2 a' e.1.bc),(22,aH 76 1 2 ar e.1.parts),(23,E.cells [ms 21 1 2 a' e.1.bc,ms 22 1 2 ar e.1.parts])] [20,21,22,23]) (λn0 h=>an h λj4 j h=>aE a (eJ 5++[bw ar d,b',aI aA k.body,b',b',au (ga G j),b',b']) (ay h)) λnx h=>aC h (λW h=>aq h▸U a aB) λW h=>ax (al (an h λx y h=>bh h (λu h=>aE a [.z (.v (V.bX [V.t T.gM,aT x.2])),aw (xh u (i8 G y))] (al (al (jE h)))) λu h=>aE a [.z (.v (V.bX [V.aS (eA (x.1.getD default)),aT x.2])),aw (xi u (i8 G y))] (al (an h λl I h=>ad a [bg [] [24] (K1 G I),aI di l] (bd (cq h (λs=>bj [(1,Y part),(2,Y c),(6,V.ref 20 0),(8,V.ref 23 0),(9,V.cR 22 1 2 (0+bA part) 0),(11,V.aS (eA (x.1.getD default))),(45,ms 24 1 3 di l),(46,Y (l.length:Int)),(47,Y s)] [(20,E.cells [br,br]),(21,aH 71 1 2 a' e.1.bc),(22,aH 76 1 2 ar e.1.parts),(23,E.cells [ms 21 1 2 a' e.1.bc,ms 22 1 2 ar e.1.parts]),(24,aH 141 1 3 di l)] [20,21,22,23,24]) aM λf kG h=>U a (cU h (λc4 h=>ax (bC (an h λM A h=>ad a [aw (bK di A),bw di A,.z (.nat 25)] (al (bP h λN B P C h=>bJ a bI [aY cJ B,aY cJ C,.z (.nat 26),.z (.nat 27)] (bW h (λs=>bj [(1,Y part),(2,Y c),(6,V.ref 20 0),(8,V.ref 23 0),(9,V.cR 22 1 2 (0+bA part) 0),(11,V.aS (eA (x.1.getD default))),(45,ms 24 1 3 di l),(46,Y (l.length:Int)),(47,Y kG),(88,aT s)] [(20,E.cells [br,br]),(21,aH 71 1 2 a' e.1.bc),(22,aH 76 1 2 ar e.1.parts),(23,E.cells [ms 21 1 2 a' e.1.bc,ms 22 1 2 ar e.1.parts]),(24,aH 141 1 3 di l),(25,E.cells [Y M.eV,Y M.eX,Y M.kinds]),(26,E.cells (j0 N)),(27,E.cells (j0 P))] [20,21,22,23,24,25,26,27]) (λajC h=>bh h (λD h=>aE a (aO 5 D++eJ 10) (ay h)) λD h=>bh h (λg h=>aE a (aV 5 D++aO 5 g++eJ 5) (ay h)) λg h=>bh h (λS h=>aE a (aV 5 D++aV 5 g++aO 5 S) (ay h)) λS h=>aE a (aV 5 D++aV 5 g++aV 5 S) (ay h)) λr7 h=>aC h (λiF h=>aq h▸U a aB) λiF h=>ax (bf a (ay h)))))))) λc4 h=>bq (al (cW h λr8 F r9 H uv K h=>bJ a bI [bw ar d,bg [] [25] (MZ G F),bw ar d,b2 (qc aA H),bQ 9 gx k.body,bg [] [26] (Xz G K),.z (.nat 27)] (bF a [.bN 25 [] [27],.bN 26 [] [27]] (bP h λxk L m i h=>ad a [bw ar d,b2 (qk aA L),bQ 9 gx k.body,bw ar d,.z (.rows (m.map ar)),.z (.e6 23 1 (m.map ar).length),aw (str ar i),aw (cQ ar i)] (bP h λr' Q qA R h=>aq h▸ad a [.z (.int 1),.z (.nat 28),bg [22,28] [] (LF G n m (wr (part+1)) [(⟨r8,uv⟩:Part)] 1 1 Q)] (bF a [.bN 21 [] [23],.bN 22 [] [23]] (ad a [au (rz G R)] aB)))))))))))))))))
theorem Lu{a}{r}(h:pU n a=aa r):cj G 208 [aH 81 1 2 az a] [ms 0 1 2 az a] (ms 1 1 2 az r) [aH 81 1 2 az a,aH 81 1 2 az r]:=by refine cA aQ func208 rfl λw X m b B=>U b (U b (al (ad b [aI az a] (bd (bF b [.grow 3 20 81] (cz h (λe l=>bj [(3,ms 20 l 2 az e.1),(6,ms 0 1 2 az a),(7,Y (a.length:Int)),(8,Y e.2)] [(0,aH 81 1 2 az a),(20,aH 81 l 2 az e.1)] [0,20]) 1 (aM) ?_))))));rintro d ⟨o,p⟩ q h;exact U b (cU h (λs h=>ax (bC (an h λx c h=>ad b [aw (bK az c),bw az c,.z (.nat 21)] (bP h λy i A k h=>aE b [au (Ll G n x i),.z (.int 0),b2 (cy az k),bQ 2 f' o,bQ 2 f' [y]] (bf b ⟨(A,wr (p+1)),(q+1),h,aM⟩))))) λs h=>aq h▸bq (U b (bF b [.cL 20 1 [2] []] cT)))
theorem Yk{nest}{r}(h:rL n nest=aa r):cj G 127 [E.aN ca 1 1 (nest.map av) []] [ms 0 1 2 av nest] (ms 1 1 2 av r) [E.aN ca 1 1 (nest.map av) [],E.aN ca 1 1 (r.map av) []]:=by refine cA aQ func127 rfl λw X x b D=>U b (U b (al (ad b [aI av nest] (bd (bF b [.grow 3 20 115,.dq 20 ca 1] (cz h (λl s=>bj [(3,ms 20 s 2 av l.1),(6,ms 0 1 2 av nest),(7,Y (nest.length:Int)),(8,Y l.2)] [(0,E.aN ca 1 1 (nest.map av) []),(20,E.aN ca 1 s (l.1.map av) [])] [0,20]) 1 (aM) ?_))))));rintro k ⟨d,m⟩ A h;exact U b (cU h (λB h=>ax (bC (al (an h λe a h=>c6 b [.dt 0 25 (0+bA m) 0 (av e),.dt 0 26 (0+bA m) 1 (av e),.en 25,.en 26] (a2 (bY av a) (bY av a)) (aE b [aw (bK av a),bw av a,.z (.nat 21)] (cW h λi o C p q c h=>bJ b bI [bg [25] [22] (Lu G o),bg [26] [23] (Lu G p),.z (.lt 24 ca 1),.z (.rows (bL av (d++[(⟨[],[]⟩:Loop)]))),aw (bG (aR ca 1)),aw (lZ av (⟨[],[]⟩:Loop) c),bQ 2 fx d,bQ 2 fx [(⟨[],[]⟩:Loop)]] (c6 b [.dq 22 ca 3,.cP 20 22 (av (⟨[],[]⟩:Loop)) (bL av (d++[(⟨i,[]⟩:Loop)])),.dq 23 ca 3,.cP 20 23 (av (⟨i,[]⟩:Loop)) (q.map av),.len 3 (q.map av).length] (a9 (bG (i.map az).length) (bG ca) (hg av d (⟨[],[]⟩:Loop)) (nF av d (ph:=(⟨[],[]⟩:Loop)) (y:=(⟨i,[]⟩:Loop)) rfl) (bG (C.map az).length) (bG ca) (hg av d (⟨i,[]⟩:Loop)) (mA av (ph:=(⟨i,[]⟩:Loop)) c rfl) (l2 av (⟨[],[]⟩:Loop) c)) (c6 b [.dq 25 ca 3,.dq 26 ca 3,.cP 0 26 (av e) (nest.map av),.cP 0 25 (av e) (nest.map av)] (fH (bG (e.aJ.map az).length) (bG ca) (bY av a) (jG av a rfl) (bG (e.lo.map az).length) (bG ca) (bY av a) (jG av a rfl)) (bf b ⟨(q,wr (m+1)),(A+1),h,aM⟩))))))))) λB h=>aq h▸bq (U b (bF b [.cL 20 1 [2,3] []] cT)))
theorem Yh{p}{r}(h:qa n p=aa r):cj G 62 [E.aN ca 1 1 (p.nest.map av) [],aH 86 1 9 aA p.body] [V.agg [ms 0 1 2 av p.nest,ms 1 1 9 aA p.body]] (V.agg [ms 2 1 2 av r.nest,ms 3 1 9 aA r.body]) [E.aN ca 1 1 (p.nest.map av) [],aH 86 1 9 aA p.body,E.aN ca 1 1 (r.nest.map av) [],aH 86 1 9 aA r.body]:=by refine cA aQ func62 rfl λw X o a C=>ad a [.z (.nat 25),.z (.nat 20)] (an h λl d h=>ad a [bg [0] [21] (Yk G d),.z (.nat 22)] (al (ad a [aI aA p.body] (bd (bF a [.eC 22 1 23 86] (cz h (λe m=>bj [(2,V.ref 20 0),(3,V.ref 22 0),(11,ms 1 1 9 aA p.body),(12,Y (p.body.length:Int)),(13,Y e.2)] [(0,E.aN ca 1 1 (p.nest.map av) []),(1,aH 86 1 9 aA p.body),(20,E.cells [br,br]),(21,E.aN ca 1 1 (l.map av) []),(22,E.cells [ms 21 1 2 av l,ms 23 m 9 aA e.1]),(23,aH 86 m 9 aA e.1)] [0,1,20,21,22,23,25]) 1 (aM) ?_))))));rintro c ⟨q,s⟩ x h;exact U a (cU h (λy h=>ax (bC (an h λD b h=>ad a [aw (bK aA b),bw aA b,.z (.nat 24)] (bP h λA i B k h=>bJ a bI [au (FB G i),.z (.int 0),b2 (cy aA k),bQ 9 gx q,bQ 9 gx [A]] (bf a ⟨(B,wr (s+1)),(x+1),h,aM⟩))))) λy h=>aq h▸bq (U a (bF a [.cL 21 2 [] [20,22]] (bF a [.cL 23 3 [] [20,22]] cT))))
theorem XR{p}{part}{i}{r}(h:Ft n p part i=aa r):ba G 72 [V.agg (b9 p),Y part,Y i] (V.bX [V.agg (b9 r.1),aT r.2]):=by
 refine bp aQ func72 rfl λw X a=>ad a [.z (.b (ab)),.z (.nat 20)] (al (an h λN F h=>bh h (λR h=>aE a [au (rF G n p part (-1) F R),.z (.nat 21)] (al (ad a (dY 7) (km (b:=ab) J (λI=>aq h▸U a aB) λI=>by cases I)))) λR h=>an h λl d h=>aE a [bg [] [21,22] (rD G n p part (-1) F R),.z (.nat 23)] (c6 a [.dt 22 24 (0+bA part) 0 (ar l)] (aL (bY ar d)) (al (ad a (eJ 4++[bw ar d,b',aI av l.nest,b',b']) (aC h (λP h=>aq h▸U a aB) λP h=>ax (al (bP h λm c M W h=>c6 a [.dt 24 25 (0+bA 0) 0 (av m),.dt 24 26 (0+bA 0) 1 (av m),.en 25,.en 26] (a2 (bY av c) (bY av c)) (aE a [bw ar d,aw (bK av c),bw av c,.z (.b ab),.z (.nat 25),.z (.nat 26),au (K' G W)] (c6 a [.dq 25 ca 3,.dq 26 ca 3,.cP 24 26 (av m) (l.nest.map av),.cP 24 25 (av m) (l.nest.map av)] (fH (bG (m.aJ.map az).length) (bG ca) (bY av c) (jG av c rfl) (bG (m.lo.map az).length) (bG ca) (bY av c) (jG av c rfl)) (al (al (bh h (λf h=>?_) λf h=>?_)))))))))))))
 ·have H:(!M.2.2)=ab:=by rw[f];rfl
  exact aE a (aV 6 H) (km (b:=ab) J (λk=>aq h▸U a aB) λk=>by cases k)
 have H:(!M.2.2)=ak:=by rw[f];rfl
 refine an h λg j h=>aE a (aO 4 H++[au (ga G j),aK H,aK H]) (dL (b:= !g) (λk=>?_) λk=>?_)
 ·have k:g=ak:=by simpa using k
  have h:=ik k h;exact aq h▸U a aB
 have k:g=ab:=by simpa using k
 have h:=il k h;exact ax (al (an h λS t h=>c6 a [.dt 22 27 (0+bA part) 1 (ar l),.en 27] (aL (bY ar d)) (aE a [bw ar d,bg [24,27] [28,29] (Yh G t),.z (.nat 30)] (al (cW h λT o u q v s h=>an h λC x h=>c6 a [.dt 24 31 (0+bA 0) 1 (av m),.en 31] (aL (bY av c)) (aE a [bw ar d,aw (bK av c),bw av c,aw (bK az o),bw az o,.z (.rows (u.map az)),aw (str az q)] (c6 a [.dq 31 ca 3,.cP 24 31 (av m) (v.map av)] (a4 (cQ az q) (bG ca) (bY av c) (hd av s rfl)) (al (cW h λK e r9 y E A h=>an h λD B h=>c6 a [.dt 28 32 (0+bA 0) 0 (av K),.en 32] (aL (bY av e)) (aE a [aw (bK av e),bw av e,aw (bK az y),bw az y,.z (.rows (E.map az)),aw (str az A)] (c6 a [.dq 32 ca 3,.cP 28 32 (av K) (D.map av),.dq 27 ca 2,.cP 22 27 (ar l) (N.1.parts.map ar),.cP 22 24 (ar l) (C.map ar)] (a12 (cQ az A) (bG ca) (bY av e) (hd av B rfl) (bG (l.body.map aA).length) (bG ca) (bY ar d) (jG ar d rfl) (cQ av s) (bG ca) (bY ar d) (hd ar x rfl)) (c6 a [.en 22,.e6 23 1 (C.map ar).length,.en 28,.e6 30 0 (D.map av).length,.bN 28 [] [30],.bN 29 [] [30]] (a2 (cQ ar x) (cQ av B)) (bP h λpx L py Q h=>aq h▸ad a [.z (.int 1),.z (.nat 33),bg [22,33] [] (LF G n C (wr (part+1)) [(⟨D,S.body⟩:Part)] 1 1 L)] (bF a [.bN 21 [] [23],.bN 22 [] [23]] (ad a [au (rz G Q)] aB)))))))))))))))
theorem Uz{p}{r}(h:Eb n p=aa r):ba G 282 [V.agg (b9 p)] (Y r):=by refine bp aQ func282 rfl λw X a=>ad a [.z (.b (ab))] (U a (al (ad a [aI a' p.bc] (bd (cq h (λi=>b0 [(3,Y i.1),(7,aG a' p.bc),(8,Y (p.bc.length:Int)),(9,Y i.2)]) aM ?_)))));rintro c ⟨l,m⟩ h;exact U a (cU h (λk h=>ax (bC (an h λo d h=>ad a [aY a' d,.z (.nat 20)] (an h λq e h=>aE a [au (LR G e)] (bf a (ay h)))))) λk h=>aq h▸bq (U a aB))
theorem Up{t}{part}{r}(h:zg n t part=aa r):cj G 227 [] [V.aS (eA t),Y part] (V.bX [ms 0 1 1 bO r.1,ms 1 1 1 bO r.2]) [aH 4 1 1 bO r.1,aH 4 1 1 bO r.2]:=by
 refine cA aQ func227 rfl λw X P b bV=>U b (al (cW h λhl Q j3 q j4 R h=>an h λnx s h=>bJ b bI [au (Uz G Q),.z (.nat 20),b2 (mo bO q),aw (kq q).1,au (Uz G R),.z (.nat 21),b2 (mo bO s),aw (kq s).1] (al (ad b [aI cJ t.list] (bd (CP (γ:=Nat×Nat) h (λa d=>bj [(0,V.aS (eA t)),(1,Y part),(6,ms 20 d.1 1 bO a.1),(7,ms 21 d.2 1 bO a.2.1),(27,aG cJ t.list),(28,Y (t.list.length:Int)),(29,Y a.2.2)] [(20,aH 4 d.1 1 bO a.1),(21,aH 4 d.2 1 bO a.2.1)] [20,21]) (1,1) (aM) ?_))))));rintro x ⟨S,W,L⟩ ⟨N,y⟩ h;refine U b (cU h (λT h=>?_) λT h=>?_)
 ·refine ax ?_;obtain⟨f,A,h⟩:=l3 h;refine lI (γ:=Nat) (j:=f) (r:=r) (λa d=>bj [(0,V.aS (eA t)),(1,Y part),(6,ms 20 d 1 bO a.1),(7,ms 21 y 1 bO a.2.1),(27,aG cJ t.list),(28,Y (t.list.length:Int)),(29,Y L)] [(20,aH 4 d 1 bO a.1),(21,aH 4 y 1 bO a.2.1),(22,E.cells [Y a.2.2.1,Y a.2.2.2.1,aG ah a.2.2.2.2])] [20,21,22]) ?_ ?_
  ·refine bd (an h λc B h=>ad b [aY cJ B,.z (.nat 22)] (al (U b (aC h (λc2 h=>bq ⟨(S,W,c.part,c.stmt,c.dc),N,h,aM⟩) λc2 h=>ax (al (an h λm C h=>ad b [aY (bn ah) C,aI ah m] (bd (cz h (λa d=>bj [(0,V.aS (eA t)),(1,Y part),(6,ms 20 d 1 bO a.1),(7,ms 21 y 1 bO W),(8,Y L),(27,aG cJ t.list),(28,Y (t.list.length:Int)),(29,Y L),(44,aG ah m),(45,Y (m.length:Int)),(46,Y a.2)] [(20,aH 4 d 1 bO a.1),(21,aH 4 y 1 bO W),(22,E.cells (j0 c))] [20,21,22]) N (aM) ?_))))))));rintro D ⟨g,u⟩ F h;exact U b (cU h (λc3 h=>ax (bC (an h λpx H h=>ad b [aY ah H] (bP h λpy e o i h=>aE b [aw (bK bO e),bw bO e,.z (.rows (o.map bO)),.z (.len 6 (o.map bO).length),aw (str bO i),aw (cQ bO i)] (bf b ⟨(o,wr (u+1)),F,h,aM⟩))))) λc3 h=>bq (cW h λqA K qB k p l h=>aE b [aY ah K,aw (bK bO k),bw bO k,.z (.rows (p.map bO)),.z (.len 7 (p.map bO).length),aw (str bO l),aw (cQ bO l)] ⟨(g,p,c.part,c.stmt,c.dc),F,h,aM⟩))
  rintro⟨v,I,sa,ux,xn⟩ M h;subst A;exact bf b ⟨(v,I,wr (L+1)),(M,y),h,aM⟩
 exact aq h▸bq (U b (bF b [.cL 20 0 [4] []] (bF b [.cL 21 1 [5] []] cT)))
theorem UO{p}{a}{b}{r}(h:DT n p a b=aa r):ba G 163 [V.agg (b9 p),Y a,Y b] (aT r):=bp aQ func163 rfl λw X e=>ad e [.z (.b (ab))] (al (an h λj L h=>bh h (λu h=>aE e [.z (.v (V.bX [V.t T.gM,aT j.2])),aw (xh u (i8 G L))] (al (bW h (λF=>b0 [(1,Y a),(2,Y b),(7,V.t T.gM),(37,aT F)]) (λn0 h=>bh h (λx h=>an h λj4 H h=>bh h (λB h=>an h λnx Q h=>bh h (λE h=>aE e (aO 3 x++[au (hN G H),aK x,aK x]++aO 3 B++[au (hN G Q),aK B,aK B]++aO 4 E) (ay h)) λE h=>aE e (aO 3 x++[au (hN G H),aK x,aK x]++aO 3 B++[au (hN G Q),aK B,aK B]++aV 4 E) (ay h)) λB h=>aE e (aO 3 x++[au (hN G H),aK x,aK x]++aV 5 B++dY 4) (ay h)) λx h=>aE e (aV 5 x++dY 9) (ay h)) λsb h=>aC h (λS h=>aq h▸U e aB) λS h=>ax (al (jE h))))) λu h=>aE e [.z (.v (V.bX [V.aS (eA (j.1.getD default)),aT j.2])),aw (xi u (i8 G L))] (al (bW h (λF=>b0 [(1,Y a),(2,Y b),(7,V.aS (eA (j.1.getD default))),(37,aT F)]) (λzf h=>bh h (λy h=>an h λkG K h=>bh h (λC h=>an h λkH R h=>bh h (λI h=>aE e (aO 3 y++[au (hN G K),aK y,aK y]++aO 3 C++[au (hN G R),aK C,aK C]++aO 4 I) (ay h)) λI h=>aE e (aO 3 y++[au (hN G K),aK y,aK y]++aO 3 C++[au (hN G R),aK C,aK C]++aV 4 I) (ay h)) λC h=>aE e (aO 3 y++[au (hN G K),aK y,aK y]++aV 5 C++dY 4) (ay h)) λy h=>aE e (aV 5 y++dY 9) (ay h)) λoA h=>aC h (λc9 h=>aq h▸U e aB) λc9 h=>ax (an h λi W h=>ad e [bg [] [20,21] (Up G W)] (an h λo f h=>ad e [bg [] [22,23] (Up G f)] (al (ad e [aI bO i.1] (bd (cq h (λF=>bj [(9,ms 20 1 1 bO i.1),(10,ms 21 1 1 bO i.2),(11,ms 22 1 1 bO o.1),(12,ms 23 1 1 bO o.2),(51,Y (i.1.length:Int)),(52,Y F)] [(20,aH 4 1 1 bO i.1),(21,aH 4 1 1 bO i.2),(22,aH 4 1 1 bO o.1),(23,aH 4 1 1 bO o.2)] [20,21,22,23]) aM λg M h=>U e (cU h (λN h=>ax (bC (U e (bW h (λF=>bj [(9,ms 20 1 1 bO i.1),(10,ms 21 1 1 bO i.2),(11,ms 22 1 1 bO o.1),(12,ms 23 1 1 bO o.2),(51,Y (i.1.length:Int)),(52,Y M),(82,aT F)] [(20,aH 4 1 1 bO i.1),(21,aH 4 1 1 bO i.2),(22,aH 4 1 1 bO o.1),(23,aH 4 1 1 bO o.2)] [20,21,22,23]) (λajE h=>an h λr9 d h=>bh h (λc h=>an h λuv q h=>bh h (λs h=>aE e ([aw (bK bO d),bw bO d]++aO 7 c++[b',b',b',aw (bK bO q),b',bw bO q,b']++aO 4 s++[b',aK s,b']) (ay h)) λs h=>an h λxk D h=>aE e ([aw (bK bO d),bw bO d]++aO 7 c++[b',b',b',aw (bK bO q),b',bw bO q,b']++aV 3 s++[aw (bK bO D),aX s,bw bO D,b',aX s,b']) (ay h)) λc h=>an h λpx k h=>bh h (λm h=>an h λpy l h=>bh h (λA h=>aE e ([aw (bK bO d),bw bO d]++aV 3 c++[aw (bK bO k),aX c,bw bO k,aX c]++aO 3 m++[aw (bK bO l),aK m,bw bO l,aX c,aK m,aX c]++aO 3 A++[aw (bK bO l),aK A,bw bO l]++aO 8 A) (ay h)) λA h=>aE e ([aw (bK bO d),bw bO d]++aV 3 c++[aw (bK bO k),aX c,bw bO k,aX c]++aO 3 m++[aw (bK bO l),aK m,bw bO l,aX c,aK m,aX c]++aV 7 A) (ay h)) λm h=>aE e ([aw (bK bO d),bw bO d]++aV 3 c++[aw (bK bO k),aX c,bw bO k,aX c]++aV 4 m++[aX c,aX m,aX c]++dY 7) (ay h)) λr' h=>aC h (λP h=>aq h▸U e aB) λP h=>ax (bf e (ay h)))))) λN h=>aq h▸bq (U e aB))))))))))))
theorem XN{p}{part}{r}(h:Fp n p part=aa r):ba G 73 [V.agg (b9 p),Y part] (V.bX [V.agg (b9 r.1),aT r.2]):=bp aQ func73 rfl λw X a=>ad a [.z (.b (ab)),.z (.nat 20)] (al (bW h (λy=>bj [(1,Y part),(2,V.aS (eh p)),(4,V.ref 20 0),(23,aT y)] [(20,E.cells [br,br])] [20]) (λB h=>bh h (λe h=>bh h (λi h=>an h λC o h=>aE a (aO 4 e++[aI ar p.parts,aK e,aK e]++aO 5 i++[au (UO G o),aK i,aK i]) (ay h)) λi h=>aE a (aO 4 e++[aI ar p.parts,aK e,aK e]++aV 7 i) (ay h)) λe h=>aE a (aV 6 e++dY 7) (ay h)) λD h=>aC h (λA h=>aq h▸U a aB) λA h=>ax (an h λF q h=>ad a [bg [] [21,22] (Ed G q),.z (.nat 23)] (al (cW h λH k K c s d h=>bP h λL l x m h=>aq h▸bJ a bI [aw (bK ar k),bw ar k,aw (bK ar c),bw ar c,aw (bK ar c),bw ar c,.z (.rows (s.map ar)),aw (str ar d),aw (Dg ar l (cQ ar d)),bw ar l,.z (.rows (x.map ar)),aw (str ar m)] (c6 a [.len 31 (s.map ar).length,.e6 23 1 (s.map ar).length,.e6 23 1 (x.map ar).length] (a3 (cQ ar d) (cQ ar d) (cQ ar m)) (ad a [.z (.at 3),.z (.bN 21 [] [23]),.z (.at 3),.z (.bN 22 [] [23])] aB)))))))
theorem VX{t}{a}{r}(h:D0 n t a=aa r):cj G 229 [] [V.aS (eA t),Y a] (ms 0 1 1 ah r) [aH 3 1 1 ah r]:=by refine cA aQ func229 rfl λw X D b Q=>U b (U b (al (an h λc q h=>ad b [aY (bn ah) q,aI ah c] (bd (bF b [.grow 5 20 3] (cz h (λd A=>bj [(0,V.aS (eA t)),(1,Y a),(5,ms 20 A 1 ah d.1),(15,aG ah c),(16,Y (c.length:Int)),(17,Y d.2)] [(20,aH 3 A 1 ah d.1)] [20]) 1 (aM) ?_))))));rintro m ⟨e,s⟩ i h;exact U b (cU h (λF h=>ax (bC (an h λB x h=>ad b [aY ah x] (U b (bC (cq h (λd=>bj [(0,V.aS (eA t)),(1,Y a),(5,ms 20 i 1 ah e),(7,Y B),(8,Y d),(15,aG ah c),(16,Y (c.length:Int)),(17,Y s)] [(20,aH 3 i 1 ah e)] [20]) aM λo C h=>al (bW h (λd=>bj [(0,V.aS (eA t)),(1,Y a),(5,ms 20 i 1 ah e),(7,Y B),(8,Y C),(15,aG ah c),(16,Y (c.length:Int)),(17,Y s),(35,aT d)] [(20,aH 3 i 1 ah e)] [20]) (λR h=>bh h (λp h=>aE b (aO 10 p) (ay h)) λp h=>an h λH k h=>aE b (aV 6 p++[aY ah k]++aV 4 p) (ay h)) λK h=>aC h (λL h=>ax (bd (bf b (ay h)))) λL h=>bq (an h λy l h=>aE b [.z (.int 0),b2 (cy ah l),db e,db [C]] (bf b ⟨(y,wr (s+1)),(i+1),h,aM⟩))))))))) λF h=>aq h▸bq (U b (eu b 4 20)))
theorem Wu{t}{r}(h:Et n t=aa r):cj G 165 [] [V.aS (eA t)] (ms 0 1 1 bO r) [aH 4 1 1 bO r]:=by
 refine cA aQ func165 rfl λw X E a bV=>U a (an h λhl s h=>ad a [aI cJ t.list,.z (.nat 20),b2 (mo bO s),aw (kq s).1] (al (ad a [aI cJ t.list] (bd (cz h (λb i=>bj [(0,V.aS (eA t)),(3,ms 20 i 1 bO b.1),(4,Y b.2)] [(20,aH 4 i 1 bO b.1)] [20]) 1 (aM) ?_)))));rintro K ⟨Q,x⟩ L h;refine al (U a (aC h (λI h=>?_) λI h=>?_))
 ·refine ax ?_;obtain⟨M,R,h⟩:=l3 h;refine lI (γ:=Nat) (j:=M) (r:=r) (λb i=>bj [(0,V.aS (eA t)),(3,ms 20 i 1 bO b),(4,Y x)] [(20,aH 4 i 1 bO b)] [20]) ?_ ?_
  ·refine bd (al (bW h (λb=>bj [(0,V.aS (eA t)),(3,ms 20 L 1 bO Q),(4,Y x),(44,aT b)] [(20,aH 4 L 1 bO Q)] [20]) (λS8 h=>an h λkH d h=>bh h (λq h=>bJ a bI ([aw (bK bO d),bw bO d]++aO 16 q) (ay h)) λq h=>cW h λoA W N y P A h=>bJ a bI ([aw (bK bO d),bw bO d]++aV 7 q++[b2 (qc ah W),db t.iu]++aV 6 q++[aY ah y,aX q,aX q,au (KV G A),aX q]) (ay h)) λS h=>aC h (λT h=>bq ⟨Q,L,h,aM⟩) λT h=>ax (bP h λr7 k B l h=>ad a [aw (bK bO k),bw bO k,.z (.rows (B.map bO)),.z (.len 3 (B.map bO).length),aw (str bO l),aw (cQ bO l)] (an h λc C h=>ad a [bg [] [21] (VX G C),aI ah c] (bd (cz h (λb i=>bj [(0,V.aS (eA t)),(3,ms 20 i 1 bO b.1),(4,Y x),(50,ms 21 1 1 ah c),(51,Y (c.length:Int)),(52,Y b.2)] [(20,aH 4 i 1 bO b.1),(21,aH 3 1 1 ah c)] [20,21]) L (aM) ?_))))));rintro D ⟨f,F⟩ e h;exact U a (cU h (λc4 h=>ax (bW h (λb=>bj [(0,V.aS (eA t)),(3,ms 20 e 1 bO b),(4,Y x),(50,ms 21 1 1 ah c),(51,Y (c.length:Int)),(52,Y F)] [(20,aH 4 e 1 bO b),(21,aH 3 1 1 ah c)] [20,21]) (λalw h=>bd (an h λqA m h=>ad a [aw (bK ah m),bw ah m] (U a (aC h (λc5 h=>bP h λqB o H p h=>aE a [aw (bK bO o),bw bO o,.z (.rows (H.map bO)),.z (.len 3 (H.map bO).length),aw (str bO p),aw (cQ bO p)] (ay h)) λc5 h=>ax (ay h))))) λg h=>bf a ⟨(g,wr (F+1)),e,h,aM⟩)) λc4 h=>bq ⟨f,e,h,aM⟩)
  rintro u v h;subst R;exact bf a ⟨(u,wr (x-1)),v,h,aM⟩
 exact aq h▸bq (U a (eu a 2 20))
theorem Ze{p}{part}{r}(h:AW n p part=aa r):ba G 74 [V.agg (b9 p),Y part] (V.bX [V.agg (b9 r.1),aT r.2]):=bp aQ func74 rfl λw X a=>ad a [.z (.b (ab)),.z (.nat 20)] (al (an h λk l h=>bh h (λB h=>aE a [.z (.v (V.bX [V.t T.gM,aT k.2])),aw (xh B (i8 G l))] (al (bW h (λe=>bj [(1,Y part),(2,V.aS (eh p)),(4,V.ref 20 0),(6,V.t T.gM),(23,aT e)] [(20,E.cells [br,br])] [20]) (λI h=>bh h (λm h=>an h λM C h=>aE a (aO 3 m++[au (hN G C),aK m,aK m]) (ay h)) λm h=>aE a (aV 5 m) (ay h)) λN h=>aC h (λH h=>aq h▸U a aB) λH h=>ax (al (al (jE h)))))) λB h=>aE a [.z (.v (V.bX [V.aS (eA (k.1.getD default)),aT k.2])),aw (xi B (i8 G l))] (al (bW h (λe=>bj [(1,Y part),(2,V.aS (eh p)),(4,V.ref 20 0),(6,V.aS (eA (k.1.getD default))),(23,aT e)] [(20,E.cells [br,br])] [20]) (λP h=>bh h (λo h=>an h λS D h=>aE a (aO 3 o++[au (hN G D),aK o,aK o]) (ay h)) λo h=>aE a (aV 5 o) (ay h)) λkG h=>aC h (λK h=>aq h▸U a aB) λK h=>ax (al (an h λi F h=>ad a [bg [] [21] (Wu G F),aI bO i] (bd (cq h (λe=>bj [(1,Y part),(2,V.aS (eh p)),(4,V.ref 20 0),(6,V.aS (eA (k.1.getD default))),(26,ms 21 1 1 bO i),(27,Y (i.length:Int)),(28,Y e)] [(20,E.cells [br,br]),(21,aH 4 1 1 bO i)] [20,21]) aM λq L h=>U a (cU h (λQ h=>ax (bC (an h λR d h=>ad a [aw (bK bO d),bw bO d] (bW h (λe=>bj [(1,Y part),(2,V.aS (eh p)),(4,V.ref 20 0),(6,V.aS (eA (k.1.getD default))),(26,ms 21 1 1 bO i),(27,Y (i.length:Int)),(28,Y L),(45,aT e)] [(20,E.cells [br,br]),(21,aH 4 1 1 bO i)] [20,21]) (λW h=>bh h (λA h=>aE a (aO 11 A) (ay h)) λA h=>an h λf s h=>aE a (aV 6 A++[aY cJ s]++aV 5 A) (ay h)) λg h=>aC h (λj h=>aq h▸U a aB) λj h=>ax (bf a (ay h)))))) λQ h=>bq (an h λu x h=>ad a [bg [] [22,23] (Ed G x),.z (.nat 24)] (an h λc y h=>aq h▸ad a [bg [23] [] (LG G 1 y),.z (.cut 23 c.1 (bL ar (c.2.take c.1))),aw (Mc ar c.2 c.1)] (ad a [.z (.at 3),.z (.bN 22 [] [24]),.z (.at 3),.z (.bN 23 [] [24])] aB))))))))))))
theorem Im{a}{r}(h:oK n a=aa r):ba G 283 [Y a] (V.agg (dz r)):=bp aQ func283 rfl λw X b=>aq h▸ad b [.z (.nat 20)] (U b aB)
theorem me{e}{a}{r}(h:jb n e a=aa r):ba G 285 [V.agg (dz e),Y a] (aT r):=bp aQ func285 rfl λw X c=>ad c [.z (.b (ab))] (bW h (λi=>b0 [(4,aT i)]) (λk h=>bh h (λd h=>aE c (aO 5 d) (ay h)) λd h=>aE c (aV 5 d) (ay h)) λl h=>aq h▸aB)
theorem aeb(G:cN): ∀(n:Nat) (e:Expr) {r:Expr} (h:rp n e=aa r),ba G 230 [V.agg (dz e)] (V.agg (dz r)):=by
 intro n;induction n with
 |zero=>intro e r h;rw[rp.eq_def] at h;cases h
 |succ n mU=>
  intro e r h;rw[rp.eq_def] at h;dsimp only at h;refine bp aQ func230 rfl λw X a=>ad a [.z (.b (ab)),.z (.nat 20)] (al (bW h (λA=>bj [(1,V.aS (bx e)),(2,V.ref 20 0),(22,aT A)] [(20,E.cells [Y 0,Y 0,br,Y 0,cH [],br,br])] [20]) (λze h=>?_) λj4 h=>?_))
  ·refine bh h (λD h=>aE a (aO 5 D++eJ 5) (ay h)) λD h=>?_;obtain⟨j3,H,h⟩:=c' h;exact bh h (λt h=>aE a (aV 3 D++[au (tb G H),aX D,aX D]++aO 5 t) (ay h)) λt h=>aE a (aV 3 D++[au (tb G H),aX D,aX D]++aV 5 t) (ay h)
  refine aC h (λc3 h=>?_) λc3 h=>?_
  ·obtain⟨nx,u,h⟩:=c' h;obtain rfl:=aq h;exact ad a [au (Im G u)] aB
  refine ax (al ?_);obtain⟨sb,v,h⟩:=c' h;refine ad a [au (HR G v)] (aC h (λc4 h=>?_) λc4 h=>?_)
  ·obtain rfl:=aq h;exact U a aB
  refine ax (al ?_);obtain⟨I,M,x,N,P,S,h⟩:=q7 h;obtain⟨y,T,h⟩:=c' h;refine bJ a bI [.z (.row (bx I)),aw (fI be M (dh I)),au (mU I N),.z (.row (bx P)),aw (fI be S (dh P)),au (mU P T),.z (.nat 21),.z (.nat 22)] (ad a [.z (.int 2),.z (.rows (bL be [x,y])),.z (.nat 23),aw (afK x y)] (U a (al (bW h (λA=>bj [(1,V.aS (bx e)),(2,V.ref 20 0),(3,V.ref 21 0),(4,V.ref 22 0),(5,V.ref 23 0),(6,K7 (e.kind=6)),(58,aT A)] [(20,E.cells [Y 0,Y 0,br,Y 0,cH [],br,br]),(21,E.cells (dz x)),(22,E.cells (dz y)),(23,E.cells [Y e.kind,Y 0,br,Y 0,cH [],br,aG be [x,y]])] [20,21,22,23]) (λS6 h=>bh h (λc5 h=>aE a (aO 4 c5) (ay h)) λc5 h=>aE a (aV 4 c5) (ay h)) λxj h=>?_))));refine aC h (λnN h=>?_) λnN h=>?_
  ·refine U a (bW h (λA=>bj [(2,V.ref 20 0),(5,V.ref 23 0),(7,Y A)] [(20,E.cells [Y 0,Y 0,br,Y 0,cH [],br,br]),(21,E.cells (dz x)),(22,E.cells (dz y)),(23,E.cells [Y e.kind,Y 0,br,Y 0,cH [],br,aG be [x,y]])] [20,21,22,23]) (λajC h=>U a (bd (U a (aC h (λs3 h=>bf a (ay h)) λs3 h=>U a (aC h (λiF h=>bf a (ay h)) λiF h=>ax (ay h)))))) λr7 h=>?_);refine al ?_;obtain⟨r8,K,h⟩:=c' h;refine ad a [au (ga G K)] (aC h (λc9 h=>?_) λc9 h=>?_)
   ·obtain⟨r9,L,h⟩:=c' h;obtain rfl:=aq h;exact ad a [au (Im G L)] aB
   obtain rfl:=aq h;exact ax (U a aB)
  refine ax (bC (bW h (λA=>bj [(1,V.aS (bx e)),(2,V.ref 20 0),(3,V.ref 21 0),(4,V.ref 22 0),(5,V.ref 23 0),(6,K7 (e.kind=6)),(85,aT A)] [(20,E.cells [Y 0,Y 0,br,Y 0,cH [],br,br]),(21,E.cells (dz x)),(22,E.cells (dz y)),(23,E.cells [Y e.kind,Y 0,br,Y 0,cH [],br,aG be [x,y]])] [20,21,22,23]) (λajG h=>?_) λr' h=>?_))
  ·refine bh h (λc h=>?_) λc h=>?_
   ·refine bh h (λm h=>aE a (aO 3 c++[b',b',aK m,aK m,b',aK m,b']) (ay h)) λm h=>?_;obtain⟨xk,Q,h⟩:=c' h;exact aE a (aO 3 c++[b',b',aX m,aX m,au (me G Q),b',aX m,b']) (ay h)
   obtain⟨px,B,h⟩:=c' h;refine bh h (λk h=>?_) λk h=>aE a ([aX c,aX c,au (me G B),aX c]++aV 4 k) (ay h);refine bh h (λo h=>aE a [aX c,aX c,au (me G B),aX c,aK k,aK k,aK o,aK o,aK k,aK o,aK k] (ay h)) λo h=>?_;obtain⟨py,R,h⟩:=c' h;exact aE a [aX c,aX c,au (me G B),aX c,aK k,aK k,aX o,aX o,au (me G R),aK k,aX o,aK k] (ay h)
  refine aC h (λJw h=>?_) λJw h=>?_
  ·obtain rfl:=aq h;exact U a aB
  refine bW h (λA=>bj [(2,V.ref 20 0),(3,V.ref 21 0),(4,V.ref 22 0),(5,V.ref 23 0),(6,K7 (e.kind=6)),(100,aT A)] [(20,E.cells [Y 0,Y 0,br,Y 0,cH [],br,br]),(21,E.cells (dz x)),(22,E.cells (dz y)),(23,E.cells [Y e.kind,Y 0,br,Y 0,cH [],br,aG be [x,y]])] [20,21,22,23]) (λajH h=>?_) λxm h=>?_
  ·refine bh h (λd h=>?_) λd h=>?_
   ·refine bh h (λp h=>aE a (aO 3 d++[b',b',aK p,aK p,b',aK p,b']) (ay h)) λp h=>?_;obtain⟨qB,W,h⟩:=c' h;exact aE a (aO 3 d++[b',b',aX p,aX p,au (me G W),b',aX p,b']) (ay h)
   obtain⟨xl,C,h⟩:=c' h;refine bh h (λl h=>?_) λl h=>aE a ([aX d,aX d,au (me G C),aX d]++aV 4 l) (ay h);refine bh h (λq h=>aE a [aX d,aX d,au (me G C),aX d,aK l,aK l,aK q,aK q,aK l,aK q,aK l] (ay h)) λq h=>?_;obtain⟨uw,f,h⟩:=c' h;exact aE a [aX d,aX d,au (me G C),aX d,aK l,aK l,aX q,aX q,au (me G f),aK l,aX q,aK l] (ay h)
  refine aC h (λJy h=>?_) λJy h=>?_
  ·obtain rfl:=aq h;exact U a aB
  refine bW h (λA=>bj [(2,V.ref 20 0),(5,V.ref 23 0),(116,aT A)] [(20,E.cells [Y 0,Y 0,br,Y 0,cH [],br,br]),(21,E.cells (dz x)),(22,E.cells (dz y)),(23,E.cells [Y e.kind,Y 0,br,Y 0,cH [],br,aG be [x,y]])] [20,21,22,23]) (λaly h=>?_) λFc h=>?_
  ·refine bh h (λi h=>aE a (aO 5 i) (ay h)) λi h=>?_;obtain⟨ux,F,h⟩:=c' h;refine bh h (λs h=>?_) λs h=>aE a [aX i,aX i,au (me G F),aX i,aX s,aX s,aX i,aX s,aX i] (ay h);obtain⟨xn,g,h⟩:=c' h;exact aE a [aX i,aX i,au (me G F),aX i,aK s,aK s,au (me G g),aX i,aK s,aX i] (ay h)
  refine aC h (λJz h=>?_) λJz h=>?_
  ·obtain⟨Ut,j,h⟩:=c' h;obtain rfl:=aq h;exact ad a [au (Im G j)] aB
  obtain rfl:=aq h;exact ax (U a aB)
theorem aaM{s}{r}(h:uy n s=aa r):ba G 166 [V.agg (fL s)] (V.agg (fL r)):=bp aQ func166 rfl λw X a=>ad a [.z (.b (ab)),.z (.nat 20)] (an h λe c h=>ad a [au (FB G c),.z (.nat 21)] (an h λi d h=>aq h▸ad a [au (aeb G n e.value d)] (U a aB)))
theorem WA{p}{r}(h:Ex n p=aa r):ba G 75 [V.agg (b9 p)] (V.bX [V.agg (b9 r.1),aT r.2]):=by
 refine bp aQ func75 rfl λw X a=>ad a [.z (.b (ab)),.z (.nat 20)] (al (an h λQ y h=>ad a [au (mO G y)] (aC h (λH h=>aq h▸U a aB) λH h=>ax (an h λk A h=>ad a [bg [] [21,22] (Uy G A),.z (.nat 23)] (al (ad a [aI ar k.parts] (bd (cq h (λe=>bj [(2,V.ref 20 0),(4,V.ref 23 0),(16,ms 22 1 2 ar e.1),(17,Y (k.parts.length:Int)),(18,Y e.2)] [(20,E.cells [br,br]),(21,aH 71 1 2 a' k.bc),(22,E.aN ca 0 1 (e.1.map ar) []),(23,E.cells [ms 21 1 2 a' k.bc,ms 22 1 2 ar e.1])] [20,21,22,23]) aM ?_))))))));rintro q ⟨s,o⟩ h;refine U a (cU h (λK h=>?_) λK h=>?_)
 ·refine ax (bC (an h λd c h=>ad a [.z (.dt 22 24 (0+bA o) 1 (ar d)),.z (.dt 22 27 (0+bA o) 0 (ar d)),bw ar c,.z (.nat 25),aw (bY ar c),aw (bK ar c),aw (bY ar c)] (bF a [.en 24] (ad a [aI aA d.body] (bd (cq h (λe=>bj [(2,V.ref 20 0),(4,V.ref 23 0),(16,ms 22 1 2 ar s),(17,Y (k.parts.length:Int)),(18,Y o),(6,V.ref 25 0),(23,ms 24 1 9 aA e.1),(24,Y (d.body.length:Int)),(25,Y e.2)] [(20,E.cells [br,br]),(21,aH 71 1 2 a' k.bc),(22,E.aN ca 0 1 (bL ar s) [((0+bA o),0,ms 27 1 2 av d.nest),((0+bA o),1,ms 24 1 9 aA d.body)]),(23,E.cells [ms 21 1 2 a' k.bc,ms 22 1 2 ar s]),(24,aH 86 1 9 aA e.1),(25,E.cells [ms 27 1 2 av d.nest,ms 24 1 9 aA e.1]),(27,E.aN ca 1 1 (d.nest.map av) [])] [20,21,22,23,24,25,27]) aM ?_))))));rintro x ⟨R,W⟩ h;exact U a (cU h (λL h=>ax (bC (an h λf i h=>ad a [aw (bK aA i),bw aA i,.z (.nat 26)] (bP h λg B C l h=>bJ a bI [au (aaM G B),aw (bK aA i),bw aA i,.z (.rows (C.map aA)),aw (str aA l)] (c6 a [.len 23 (C.map aA).length,.e6 25 1 (C.map aA).length] (a2 (cQ aA l) (cQ aA l)) (bf a (ay h))))))) λL h=>bq (bP h λj D F m h=>c6 a [.cP 22 27 (ar d) (bL ar s),.dq 24 ca 2,.cP 22 24 (ar d) (F.map ar),.len 16 (F.map ar).length,.e6 23 1 (F.map ar).length] (Vs (bG (d.nest.map av).length) (bG ca) (bY ar c) (jG ar c rfl) (je aA D) (bG ca) (bY ar c) (hd ar m rfl) (cQ ar m) (cQ ar m)) (bf a (ay h))))
 exact aq h▸bq (U a (bF a [.en 22,.bN 21 [] [20],.bN 22 [] [20]] aB))
theorem Ml{p}{s}{r}(h:wI n p s=aa r):ba G 26 [V.agg (b9 p),V.agg [Y s.kind,Y s.part,Y s.a,Y s.b]] (V.bX [V.agg (b9 r.1),aT r.2]):=bp aQ func26 rfl λw X c=>ad c [.z (.b (ab)),.z (.b (ab)),.z (.nat 20)] (al (an h λv k h=>ad c [au (ZR G k)] (aC h (λF h=>aq h▸U c aB) λF h=>ax (al (U c (bd (U c (aC h (λH h=>an h λE l h=>aq h▸ad c [au (Wz G l)] aB) λH h=>U c (aC h (λK h=>an h λI m h=>aq h▸ad c [au (Wy G m)] aB) λK h=>U c (aC h (λL h=>an h λM o h=>aq h▸ad c [au (Zc G o)] aB) λL h=>U c (aC h (λQ h=>an h λN q h=>aq h▸ad c [au (XS G q)] aB) λQ h=>U c (aC h (λR h=>an h λP x h=>aq h▸ad c [au (XO G x)] aB) λR h=>U c (aC h (λW h=>an h λS y h=>aq h▸ad c [au (XV G y)] aB) λW h=>U c (aC h (λf h=>an h λT A h=>aq h▸ad c [au (V0 G A)] aB) λf h=>U c (aC h (λg h=>an h λoA B h=>aq h▸ad c [au (XR G B)] aB) λg h=>U c (aC h (λC h=>an h λj d h=>aq h▸ad c [au (XN G d)] aB) λC h=>U c (aC h (λD h=>an h λt e h=>aq h▸ad c [au (Ze G e)] aB) λD h=>ax (an h λu i h=>aq h▸ad c [au (WA G i)] aB))))))))))))))))))
theorem V1{p}{r}(h:D4 n p=aa r):cj G 63 [] [V.agg (b9 p)] (ms 0 1 4 b4 r) [aH 44 1 4 b4 r]:=by
 refine cA aQ func63 rfl λw X P a bV=>ad a [.z (.b (ab))] (al (an h λhl R h=>ad a [au (mO G R)] (aC h (λS h=>aq h▸U a (bF a [.grow 2 0 44] cT)) λS h=>ax (U a (al (ad a [aI ar p.parts] (bd (bF a [.grow 3 20 44] (cz h (λc d=>bj [(1,V.aS (eh p)),(3,ms 20 d 4 b4 c.1),(14,aG ar p.parts),(15,Y (p.parts.length:Int)),(16,Y c.2)] [(20,aH 44 d 4 b4 c.1)] [20]) 1 (aM) ?_)))))))));rintro Q ⟨j3,e⟩ I h;refine U a (cU h (λT h=>?_) λT h=>?_)
 ·refine ax (bC (an h λk W h=>ad a [aY ar W,.z (.nat 21)] (al (U a (bd (cz h (λc d=>bj [(1,V.aS (eh p)),(3,ms 20 d 4 b4 c.1),(4,Y e),(5,V.ref 21 0),(6,Y c.2),(14,aG ar p.parts),(15,Y (p.parts.length:Int)),(16,Y e)] [(20,aH 44 d 4 b4 c.1),(21,E.cells (kC k))] [20,21]) I (aM) ?_))))));rintro l ⟨kG,M⟩ N h;refine al (ad a [aI av k.nest] (aC h (λc3 h=>ax (bC (an h λf m h=>aE a [.z (.int 0),b2 (cy b4 m),bQ 4 gV kG,bQ 4 gV [(⟨1,e,M,0⟩:Step)]] (bf a ⟨(f,wr (M+1)),(N+1),h,aM⟩)))) λc3 h=>bq (ad a [aI av k.nest] (bd (cz h (λc d=>bj [(1,V.aS (eh p)),(3,ms 20 d 4 b4 c.1),(4,Y e),(14,aG ar p.parts),(15,Y (p.parts.length:Int)),(16,Y e),(37,Y (k.nest.length:Int)),(38,Y c.2)] [(20,aH 44 d 4 b4 c.1),(21,E.cells (kC k))] [20,21]) N (aM) ?_)))));rintro o ⟨q,s⟩ x h;exact U a (cU h (λc4 h=>ax (bC (U a (an h λg y h=>aE a [.z (.int 0),b2 (cy b4 y),bQ 4 gV q,bQ 4 gV [(⟨2,e,s,0⟩:Step)]] (bf a ⟨(g,wr (s+1)),(x+1),h,aM⟩))))) λc4 h=>bq (bf a ⟨(q,wr (e+1)),x,h,aM⟩))
 refine bq (al (U a (bd (cz h (λc d=>bj [(1,V.aS (eh p)),(3,ms 20 d 4 b4 c.1),(8,Y c.2)] [(20,aH 44 d 4 b4 c.1)] [20]) I (aM) ?_))));rintro A ⟨j,i⟩ B h;refine al (ad a [aI ar p.parts] (aC h (λc5 h=>ax (bC (an h λt C h=>aE a [.z (.int 0),b2 (cy b4 C),bQ 4 gV j,bQ 4 gV [(⟨6,i,0,0⟩:Step),(⟨9,i,0,0⟩:Step)]] (bf a ⟨(t,wr (i+1)),(B+1),h,aM⟩)))) λc5 h=>bq (al (ad a [aI ar p.parts] (bd (cz h (λc d=>bj [(3,ms 20 d 4 b4 c.1),(66,Y (p.parts.length:Int)),(67,Y c.2)] [(20,aH 44 d 4 b4 c.1)] [20]) B (aM) ?_))))));rintro D ⟨F,H⟩ u h;exact U a (cU h (λnN h=>ax (bC (U a (an h λv K h=>aE a [.z (.int 0),b2 (cy b4 K),bQ 4 gV F,bQ 4 gV [(⟨10,H,0,0⟩:Step)]] (bf a ⟨(v,wr (H+1)),(u+1),h,aM⟩))))) λnN h=>bq (an h λux L h=>aq h▸ad a [.z (.int 0),b2 (cy b4 L),bQ 4 gV F,bQ 4 gV [(⟨11,0,0,0⟩:Step)]] (eu a 2 20)))
theorem Za{s}{r}(h:AP n s=aa r):ba G 126 [aG ah s] (aG ah r):=bp aQ func126 rfl λw X b=>U b (an h λc a h=>aq h▸ad b [aI ah s,aI ah s,.z (.rows (c.map ah)),aw (And.intro (qk ah a) (bG ((s.length:Int):Int))),db s] aB)
theorem Wo{p}{r}(h:zr n p=aa r):ba G 60 [V.agg (b9 p)] (aG ah r):=by refine bp aQ func60 rfl λw X a=>ad a [.z (.b (ab))] (al (an h λc d h=>bh h (λl h=>aE a [.z (.v (V.bX [V.t T.gM,aT c.2])),aw (xh l (i8 G d))] (al (U a (aC h (λB h=>aq h▸U a aB) λB h=>ax (U a (al (al (jE h)))))))) λl h=>aE a [.z (.v (V.bX [V.aS (eA (c.1.getD default)),aT c.2])),aw (xi l (i8 G d))] (al (U a (aC h (λC h=>aq h▸U a aB) λC h=>ax (U a (al (ad a [aI cJ (c.1.getD default).list] (bd (bF a [.grow 5 20 3] (cz h (λm A=>bj [(3,V.aS (eA (c.1.getD default))),(5,ms 20 A 1 ah m.1),(18,Y ((c.1.getD default).list.length:Int)),(19,Y m.2)] [(20,aH 3 A 1 ah m.1)] [20]) 1 (aM) ?_)))))))))));rintro k ⟨o,D⟩ F h;exact U a (cU h (λH h=>ax (bC (U a (cW h λK q L s Q x h=>an h λR y h=>bJ a bI [aY (bn ah) q,b2 (cy ah s),db o,db K,aY ah x,.z (.int 0),b2 (cy ah y),db L,db [Q]] (bf a ⟨(R,wr (D+1)),(F+2),h,aM⟩))))) λH h=>bq (bP h λW e f i h=>aq h▸ad a [aI ah o,.z (.at 3),.z (.bN 20 [5,41,42] []),b2 (qk ah e),db o,au (Za G i)] aB))
theorem KP{p}{a}{r}(h:vV n p a=aa r):ba G 23 [V.agg (b9 p),Y a] (Y r):=bp aQ func23 rfl λw X c=>ad c [.z (.b (ab))] (al (an h λo d h=>ad c [au (mO G d)] (aC h (λk h=>aq h▸U c aB) λk h=>ax (bP h λl e m i h=>aq h▸ad c [au (Wo G e),au (G.Tb l a m i)] aB))))
theorem Zf{p}{e}{r}(h:Ak n p e=aa r):ba G 25 [V.agg (b9 p),Y e] (V.bX [V.agg [Y r.1.kind,Y r.1.part,Y r.1.a,Y r.1.b],aT r.2]):=by
 refine bp aQ func25 rfl λw X d=>ad d [.z (.b (ab)),.z (.nat 20)] (ad d [.z (.nat 21)] (U d (an h λhl q h=>ad d [au (KP G q)] (al (an h λi s h=>ad d [bg [] [22] (V1 G s),aI b4 i] (bd (cq h (λc=>bj [(1,Y e),(2,V.aS (eh p)),(4,V.ref 20 0),(6,V.ref 21 0),(7,aT c.2.2.2.2.1),(8,Y c.2.2.2.2.2.1),(18,ms 22 1 4 b4 i),(19,Y (i.length:Int)),(20,Y c.2.2.2.2.2.2)] [(20,E.cells [Y 0,Y 0,Y 0,Y 0]),(21,E.cells [Y c.1,Y c.2.1,Y c.2.2.1,Y c.2.2.2.1]),(22,aH 44 1 4 b4 i)] [20,21,22]) aM ?_)))))));rintro l ⟨y,A,B,C,kG,kH,D⟩ h;refine U d (cU h (λF h=>?_) λF h=>?_)
 ·refine ax (bW h (λc=>bj [(1,Y e),(2,V.aS (eh p)),(4,V.ref 20 0),(6,V.ref 21 0),(7,aT c.2.2.2.2.2.2.2.2.2.2.1),(8,Y c.2.2.2.2.2.2.2.2.2.2.2),(18,ms 22 1 4 b4 i),(19,Y (i.length:Int)),(20,Y D)] [(20,E.cells [Y 0,Y 0,Y 0,Y 0]),(21,E.cells [Y c.1,Y c.2.1,Y c.2.2.1,Y c.2.2.2.1]),(22,aH 44 1 4 b4 i),(23,E.cells [Y c.2.2.2.2.1,Y c.2.2.2.2.2.1,Y c.2.2.2.2.2.2.1,Y c.2.2.2.2.2.2.2.1]),(24,E.cells [aG a' c.2.2.2.2.2.2.2.2.1,aG ar c.2.2.2.2.2.2.2.2.2.1])] [20,21,22,23,24]) (λH h=>bd (an h λK k h=>ad d [aw (bK b4 k),bw b4 k,.z (.nat 23)] (an h λL m h=>ad d [au (Ml G m),.z (.nat 24)] (al (U d (aC h (λQ h=>bq (ay h)) λQ h=>ax (an h λR o h=>ad d [au (KP G o)] (U d (aC h (λW h=>bf d (ay h)) λW h=>ax (ay h)))))))))) ?_);rintro⟨f,g,j,t,u,v,I,M,N,P,S,T⟩ h;exact bf d (ay h)
 exact bq (bW h (λc=>bj [(4,V.ref 20 0),(5,aT c)] [(20,E.cells [Y y,Y A,Y B,Y C]),(21,E.cells [Y y,Y A,Y B,Y C]),(22,aH 44 1 4 b4 i)] [20,21,22]) (λalz h=>bh h (λx h=>aE d (aO 3 x) (ay h)) λx h=>aE d (aV 3 x) (ay h)) λxn h=>aq h▸aB)
theorem NH{a}{b}{r}(h:xG n a b=aa r):ba G 167 [aG ah a,aG ah b] (aT r):=bp aQ func167 rfl λw X c=>U c (al (ad c [aI ah a,aI ah b] (aC h (λk h=>aq h▸U c aB) λk h=>ax (al (U c (bd (cq h (λl=>b0 [(0,aG ah a),(1,aG ah b),(5,Y l)]) aM λd p h=>al (ad c [aI ah a] (aC h (λm h=>ax (bC (al (bP h λq e s i h=>bJ c bI [aY ah e,aY ah i] (aC h (λo h=>aq h▸U c aB) λo h=>ax (bf c (ay h))))))) λm h=>aq h▸bq (U c aB))))))))))
theorem Z9{a}{b}{r}(h:A9 n a b=aa r):ba G 76 [V.agg [cH a.name,aG ah a.b7],V.agg [cH b.name,aG ah b.b7]] (aT r):=bp aQ func76 rfl λw X c=>ad c [.z (.b (ab)),.z (.b (ab))] (al (U c (aC h (λe h=>aq h▸U c aB) λe h=>ax (al (an h λk d h=>ad c [au (NH G d)] (aC h (λi h=>aq h▸U c aB) λi h=>aq h▸ax (U c aB)))))))
theorem Y3{a}{b}{r}(h:Gt n a b=aa r):ba G 27 [aG a' a,aG a' b] (aT r):=bp aQ func27 rfl λw X c=>U c (al (ad c [aI a' a,aI a' b] (aC h (λl h=>aq h▸U c aB) λl h=>ax (al (U c (bd (cq h (λm=>b0 [(0,aG a' a),(1,aG a' b),(5,Y m)]) aM λd q h=>al (ad c [aI a' a] (aC h (λo h=>ax (bC (al (cW h λs e x i y k h=>bJ c bI [aY a' e,aY a' i,au (Z9 G k)] (aC h (λp h=>aq h▸U c aB) λp h=>ax (bf c (ay h))))))) λo h=>aq h▸bq (U c aB))))))))))
theorem MB{a}{b}{r}(h:Ac n a b=aa r):ba G 321 [V.agg (cF a),V.agg (cF b)] (aT r):=bp aQ func321 rfl λw X c=>ad c [.z (.b (ab)),.z (.b (ab))] (al (an h λk d h=>ad c [au (NH G d)] (aC h (λe h=>aq h▸U c aB) λe h=>ax (al (U c (aC h (λi h=>aq h▸U c aB) λi h=>aq h▸ax (U c aB)))))))
theorem Lk{a}{b}{r}(h:zV n a b=aa r):ba G 286 [aG az a,aG az b] (aT r):=bp aQ func286 rfl λw X c=>U c (al (ad c [aI az a,aI az b] (aC h (λl h=>aq h▸U c aB) λl h=>ax (al (U c (bd (cq h (λm=>b0 [(0,aG az a),(1,aG az b),(5,Y m)]) aM λd q h=>al (ad c [aI az a] (aC h (λo h=>ax (bC (al (cW h λs e x i y k h=>bJ c bI [aY az e,aY az i,au (MB G k)] (aC h (λp h=>aq h▸U c aB) λp h=>ax (bf c (ay h))))))) λo h=>aq h▸bq (U c aB))))))))))
theorem aa4{a}{b}{r}(h:Cd n a b=aa r):ba G 231 [V.agg (iM a),V.agg (iM b)] (aT r):=bp aQ func231 rfl λw X c=>ad c [.z (.b (ab)),.z (.b (ab))] (al (an h λl d h=>ad c [au (Lk G d)] (aC h (λi h=>aq h▸U c aB) λi h=>ax (al (an h λm e h=>ad c [au (Lk G e)] (aC h (λk h=>aq h▸U c aB) λk h=>aq h▸ax (U c aB)))))))
theorem Z7{a}{b}{r}(h:GS n a b=aa r):ba G 168 [aG av a,aG av b] (aT r):=bp aQ func168 rfl λw X c=>U c (al (ad c [aI av a,aI av b] (aC h (λl h=>aq h▸U c aB) λl h=>ax (al (U c (bd (cq h (λm=>b0 [(0,aG av a),(1,aG av b),(5,Y m)]) aM λd q h=>al (ad c [aI av a] (aC h (λo h=>ax (bC (al (cW h λs e x i y k h=>bJ c bI [aY av e,aY av i,au (aa4 G k)] (aC h (λp h=>aq h▸U c aB) λp h=>ax (bf c (ay h))))))) λo h=>aq h▸bq (U c aB))))))))))
theorem MC{a}{b}{r}(h:Ad n a b=aa r):ba G 287 [V.agg (gH a),V.agg (gH b)] (aT r):=bp aQ func287 rfl λw X c=>ad c [.z (.b (ab)),.z (.b (ab))] (al (U c (aC h (λe h=>aq h▸U c aB) λe h=>ax (al (an h λk d h=>ad c [au (Lk G d)] (aC h (λi h=>aq h▸U c aB) λi h=>aq h▸ax (U c aB)))))))
theorem Z8(G:cN)(n:Nat)(self:Expr->Expr->Option Bool)(d: ∀(p:Expr) (q:Expr) {r:Bool},self p q=aa r->ba G 288 [V.agg (dz p),V.agg (dz q)] (aT r))(a:List Expr)(b:List Expr){r:Bool}(h:GU n self a b=aa r):ba G 322 [aG be a,aG be b] (aT r):=by
 refine bp aQ func322 rfl λw X c=>U c (al (ad c [aI be a,aI be b] (aC h (λs h=>?_) λs h=>?_)))
 ·cases h;exact U c aB
 refine ax (al (U c (bd (cq h (λx=>b0 [(0,aG be a),(1,aG be b),(5,Y x)]) aM λe B h=>al (ad c [aI be a] (aC h (λy h=>?_) λy h=>?_))))))
 ·refine ax (bC (al (cW h λi k l m C o h=>bJ c bI [.z (.row (bx i)),.z (.row (bx l)),aw (fI be k (dh i)),aw (fI be m (dh l)),au (d i l o)] (aC h (λA h=>?_) λA h=>ax (bf c (ay h))))));cases h;exact U c aB
 cases h;exact bq (U c aB)
theorem aa5(G:cN): ∀(n:Nat) (a:Expr) (b:Expr) {r:Bool} (h:qy n a b=aa r),ba G 288 [V.agg (dz a),V.agg (dz b)] (aT r):=by
 intro n;induction n with
 |zero=>intro a b r h;rw[qy.eq_def] at h;cases h
 |succ n k=>
  intro a b r h;rw[qy.eq_def] at h;dsimp only at h;refine bp aQ func288 rfl λw X c=>ad c [.z (.b (ab)),.z (.b (ab))] (al (U c (aC h (λl h=>?_) λl h=>?_)))
  ·cases h;exact U c aB
  refine ax (al (U c (aC h (λm h=>?_) λm h=>?_)))
  ·cases h;exact U c aB
  refine ax (al ?_);obtain⟨y,d,h⟩:=c' h;refine ad c [au (MB G d)] (aC h (λo h=>?_) λo h=>?_)
  ·cases h;exact U c aB
  refine ax (al ?_);obtain⟨A,e,h⟩:=c' h;refine ad c [au (MC G e)] (aC h (λp h=>?_) λp h=>?_)
  ·cases h;exact U c aB
  refine ax (al ?_);obtain⟨B,i,h⟩:=c' h;refine ad c [au (Z8 G n (qy n) (λq s r h=>k q s h) a.bm b.bm i)] (aC h (λx h=>?_) λx h=>?_)
  ·cases h;exact U c aB
  cases h;exact ax (U c aB)
theorem aa1{a}{b}{r}(h:Cb n a b=aa r):ba G 232 [V.agg (fL a),V.agg (fL b)] (aT r):=bp aQ func232 rfl λw X c=>ad c [.z (.b (ab)),.z (.b (ab))] (al (an h λl d h=>ad c [au (MC G d)] (aC h (λi h=>aq h▸U c aB) λi h=>ax (al (an h λm e h=>ad c [au (aa5 G n a.value b.value e)] (aC h (λk h=>aq h▸U c aB) λk h=>aq h▸ax (U c aB)))))))
theorem Z5{a}{b}{r}(h:GQ n a b=aa r):ba G 169 [aG aA a,aG aA b] (aT r):=bp aQ func169 rfl λw X c=>U c (al (ad c [aI aA a,aI aA b] (aC h (λl h=>aq h▸U c aB) λl h=>ax (al (U c (bd (cq h (λm=>b0 [(0,aG aA a),(1,aG aA b),(5,Y m)]) aM λd q h=>al (ad c [aI aA a] (aC h (λo h=>ax (bC (al (cW h λs e x i y k h=>bJ c bI [aY aA e,aY aA i,au (aa1 G k)] (aC h (λp h=>aq h▸U c aB) λp h=>ax (bf c (ay h))))))) λo h=>aq h▸bq (U c aB))))))))))
theorem aa3{a}{b}{r}(h:Cc n a b=aa r):ba G 77 [V.agg (kC a),V.agg (kC b)] (aT r):=bp aQ func77 rfl λw X c=>ad c [.z (.b (ab)),.z (.b (ab))] (al (an h λl d h=>ad c [au (Z7 G d)] (aC h (λi h=>aq h▸U c aB) λi h=>ax (al (an h λm e h=>ad c [au (Z5 G e)] (aC h (λk h=>aq h▸U c aB) λk h=>aq h▸ax (U c aB)))))))
theorem Z6{a}{b}{r}(h:GR n a b=aa r):ba G 28 [aG ar a,aG ar b] (aT r):=bp aQ func28 rfl λw X c=>U c (al (ad c [aI ar a,aI ar b] (aC h (λl h=>aq h▸U c aB) λl h=>ax (al (U c (bd (cq h (λm=>b0 [(0,aG ar a),(1,aG ar b),(5,Y m)]) aM λd q h=>al (ad c [aI ar a] (aC h (λo h=>ax (bC (al (cW h λs e x i y k h=>bJ c bI [aY ar e,aY ar i,au (aa3 G k)] (aC h (λp h=>aq h▸U c aB) λp h=>ax (bf c (ay h))))))) λo h=>aq h▸bq (U c aB))))))))))
theorem oU{a}{b}{r}(h:tJ n a b=aa r):ba G 8 [V.agg (b9 a),V.agg (b9 b)] (aT r):=bp aQ func8 rfl λw X c=>ad c [.z (.b (ab)),.z (.b (ab))] (al (an h λl d h=>ad c [au (Y3 G d)] (aC h (λi h=>aq h▸U c aB) λi h=>ax (al (an h λm e h=>ad c [au (Z6 G e)] (aC h (λk h=>aq h▸U c aB) λk h=>aq h▸ax (U c aB)))))))
theorem aa2{a}{b}{r}(h:Hp n a b=aa r):ba G 29 [V.agg [Y a.kind,Y a.part,Y a.a,Y a.b],V.agg [Y b.kind,Y b.part,Y b.a,Y b.b]] (aT r):=bp aQ func29 rfl λw X c=>ad c [.z (.b (ab)),.z (.b (ab))] (al (U c (aC h (λd h=>aq h▸U c aB) λd h=>ax (al (U c (aC h (λe h=>aq h▸U c aB) λe h=>ax (al (U c (aC h (λi h=>aq h▸U c aB) λi h=>ax (al (U c (aC h (λk h=>aq h▸U c aB) λk h=>aq h▸ax (U c aB)))))))))))))
theorem wJ{a}{b}{r}(h:Ap n a b=aa r):ba G 9 [aG b4 a,aG b4 b] (aT r):=bp aQ func9 rfl λw X c=>U c (al (ad c [aI b4 a,aI b4 b] (aC h (λl h=>aq h▸U c aB) λl h=>ax (al (U c (bd (cq h (λm=>b0 [(0,aG b4 a),(1,aG b4 b),(5,Y m)]) aM λd q h=>al (ad c [aI b4 a] (aC h (λo h=>ax (bC (al (cW h λs e x i y k h=>bJ c bI [aY b4 e,aY b4 i,au (aa2 G k)] (aC h (λp h=>aq h▸U c aB) λp h=>ax (bf c (ay h))))))) λo h=>aq h▸bq (U c aB))))))))))
theorem ry{k}{r}(h:d5 n k=aa r):ba G 78 [Y k] (cH r):=by refine bp aQ func78 rfl λw X a=>U a (al (U a (aC h (λl h=>aq h▸U a aB) λl h=>ax (U a (bC (cq h (λi=>b0 [(0,Y i.1),(3,cH i.2)]) aM ?_))))));rintro b ⟨c,o⟩ h;exact al (U a (aC h (λm h=>ax (bd (an h λp d h=>ad a [.z (.y (UInt8.ofInt (wr (48+(Int.tmod c 10))))),.z (.int 0),.z (.str [UInt8.ofInt (wr (48+(Int.tmod c 10)))]),aw (show(10:Int)≠0 by decide),aw (bG (UInt8.ofInt (wr (48+(Int.tmod c 10))))),aw (bG (bL qn [UInt8.ofInt (wr (48+(Int.tmod c 10)))])),Te d] (aE a [aw (show(10:Int)≠0 by decide)] (ay h))))) λm h=>bq (an h λq e h=>aq h▸ad a [Te e] aB)))
theorem EN{a}{k}{r}(h:nV n a k=aa r):ba G 82 [aG ah a,Y k] (Y r):=by refine bp aQ func82 rfl λw X b=>U b (al (U b (bd (cq h (λe=>b0 [(0,aG ah a),(1,Y e.1),(5,Y e.2)]) aM ?_))));rintro c ⟨m,o⟩ h;exact al (ad b [aI ah a] (aC h (λi h=>ax (bC (al (an h λp d h=>ad b [aY ah d] (aC h (λl h=>aq h▸U b aB) λl h=>ax (bf b (bf b (ay h)))))))) λi h=>aq h▸bq (U b aB)))
theorem WV{a}{k}{r}(h:m6 n a k=aa r):ba G 32 [aG a' a,Y k] (Y r):=by refine bp aQ func32 rfl λw X b=>U b (al (U b (bd (cq h (λl=>b0 [(0,aG a' a),(1,Y l.1),(5,Y l.2)]) aM ?_))));rintro d ⟨q,s⟩ h;exact al (ad b [aI a' a] (aC h (λm h=>ax (bC (al (al (bP h λx c y e h=>bJ b bI [aY a' c,au (ry G e)] (aC h (λo h=>aq h▸U b aB) λo h=>ax (U b (an h λz i h=>ad b [aY a' c,au (EN G i)] (U b (aC h (λp h=>aq h▸U b aB) λp h=>ax (bf b (ay h)))))))))))) λm h=>aq h▸bq (U b aB)))
theorem zm{a}{k}{r}(h:kV n a k=aa r):ba G 172 [aG az a,Y k] (Y r):=by refine bp aQ func172 rfl λw X b=>U b (al (U b (bd (cq h (λi=>b0 [(0,aG az a),(1,Y i.1),(5,Y i.2)]) aM ?_))));rintro d ⟨p,q⟩ h;exact al (ad b [aI az a] (aC h (λl h=>ax (bC (bP h λs c x e h=>ad b [aY az c,au (EN G e)] (al (U b (aC h (λm h=>aq h▸U b aB) λm h=>ax (al (ad b [aY az c] (aC h (λo h=>aq h▸U b aB) λo h=>ax (bf b (bf b (ay h)))))))))))) λl h=>aq h▸bq (U b aB)))
theorem XY{a}{k}{r}(h:tI n a k=aa r):ba G 83 [aG av a,Y k] (Y r):=by refine bp aQ func83 rfl λw X b=>U b (al (U b (bd (cq h (λl=>b0 [(0,aG av a),(1,Y l.1),(5,Y l.2)]) aM ?_))));rintro d ⟨q,s⟩ h;exact al (ad b [aI av a] (aC h (λm h=>ax (bC (bP h λx c y e h=>ad b [aY av c,au (zm G e)] (al (U b (aC h (λo h=>aq h▸U b aB) λo h=>ax (an h λz i h=>ad b [aY av c,au (zm G i)] (U b (aC h (λp h=>aq h▸U b aB) λp h=>ax (bf b (ay h))))))))))) λm h=>aq h▸bq (U b aB)))
theorem XZ(G:cN): ∀(n:Nat) (a:List Expr) (k:Int) {r:Int} (h:nw n a k=aa r),ba G 173 [aG be a,Y k] (Y r):=by
 intro n;induction n with
 |zero=>intro a k r h;rw[nw.eq_def] at h;cases h
 |succ n q=>
  intro a k r h;rw[nw.eq_def] at h;dsimp only at h;refine bp aQ func173 rfl λw X b=>U b (al (U b (bd (cq h (λp=>b0 [(0,aG be a),(1,Y p.1),(5,Y p.2)]) aM ?_))));rintro e ⟨K,L⟩ h;refine al (ad b [aI be a] (aC h (λs h=>?_) λs h=>?_))
  ·refine ax (bC (al ?_));obtain⟨c,d,h⟩:=c' h;refine ad b [.z (.row (bx c)),aw (fI be d (dh c))] (aC h (λx h=>?_) λx h=>?_)
   ·obtain rfl:=aq h;exact U b aB
   refine ax (U b (al (ad b [.z (.row (bx c)),aw (fI be d (dh c))] (aC h (λy h=>?_) λy h=>?_))))
   ·obtain rfl:=aq h;exact U b aB
   refine ax (U b ?_);obtain⟨Q,i,h⟩:=c' h;refine ad b [.z (.row (bx c)),aw (fI be d (dh c)),au (EN G i)] (al (U b (aC h (λA h=>?_) λA h=>?_)))
   ·obtain rfl:=aq h;exact U b aB
   refine ax (al (ad b [.z (.row (bx c)),aw (fI be d (dh c))] (aC h (λB h=>?_) λB h=>?_)))
   ·obtain rfl:=aq h;exact U b aB
   refine ax (U b (al (al ?_)));obtain⟨R,l,h⟩:=c' h;refine bJ b bI [.z (.row (bx c)),aw (fI be d (dh c)),au (ry G l)] (aC h (λC h=>?_) λC h=>?_)
   ·obtain rfl:=aq h;exact U b aB
   refine ax (U b ?_);obtain⟨D,m,h⟩:=c' h;refine ad b [.z (.row (bx c)),aw (fI be d (dh c)),au (zm G m)] (al (U b (aC h (λF h=>?_) λF h=>?_)))
   ·obtain rfl:=aq h;exact U b aB
   refine ax ?_;obtain⟨W,o,h⟩:=c' h;refine ad b [.z (.row (bx c)),aw (fI be d (dh c)),au (q c.bm D o)] (U b (aC h (λH h=>?_) λH h=>ax (bf b (ay h))));obtain rfl:=aq h;exact U b aB
  obtain rfl:=aq h;exact bq (U b aB)
theorem XW{a}{k}{r}(h:tH n a k=aa r):ba G 84 [aG aA a,Y k] (Y r):=by refine bp aQ func84 rfl λw X b=>U b (al (U b (bd (cq h (λs=>b0 [(0,aG aA a),(1,Y s.1),(5,Y s.2)]) aM ?_))));rintro e ⟨R,W⟩ h;exact al (ad b [aI aA a] (aC h (λx h=>ax (bC (al (al (bP h λy c f i h=>bJ b bI [aY aA c,au (ry G i)] (aC h (λz h=>aq h▸U b aB) λz h=>ax (U b (an h λg l h=>ad b [aY aA c,au (zm G l)] (al (U b (aC h (λA h=>aq h▸U b aB) λA h=>ax (al (ad b [aY aA c] (aC h (λB h=>aq h▸U b aB) λB h=>ax (U b (al (ad b [aY aA c] (aC h (λC h=>aq h▸U b aB) λC h=>ax (U b (an h λj m h=>ad b [aY aA c,au (EN G m)] (al (U b (aC h (λD h=>aq h▸U b aB) λD h=>ax (al (ad b [aY aA c] (aC h (λF h=>aq h▸U b aB) λF h=>ax (U b (al (al (an h λt o h=>bJ b bI [aY aA c,au (ry G o)] (aC h (λH h=>aq h▸U b aB) λH h=>ax (U b (an h λK p h=>ad b [aY aA c,au (zm G p)] (al (U b (aC h (λL h=>aq h▸U b aB) λL h=>ax (an h λQ d h=>ad b [aY aA c,au (XZ G n y.value.bm K d)] (U b (aC h (λq h=>aq h▸U b aB) λq h=>ax (bf b (ay h))))))))))))))))))))))))))))))))))))))))) λx h=>aq h▸bq (U b aB)))
theorem XX{a}{k}{r}(h:wB n a k=aa r):ba G 33 [aG ar a,Y k] (Y r):=by refine bp aQ func33 rfl λw X b=>U b (al (U b (bd (cq h (λl=>b0 [(0,aG ar a),(1,Y l.1),(5,Y l.2)]) aM ?_))));rintro d ⟨q,s⟩ h;exact al (ad b [aI ar a] (aC h (λm h=>ax (bC (bP h λx c y e h=>ad b [aY ar c,au (XY G e)] (al (U b (aC h (λo h=>aq h▸U b aB) λo h=>ax (an h λz i h=>ad b [aY ar c,au (XW G i)] (U b (aC h (λp h=>aq h▸U b aB) λp h=>ax (bf b (ay h))))))))))) λm h=>aq h▸bq (U b aB)))
theorem LB{a}{k}{r}(h:zt n a k=aa r):ba G 12 [V.agg (b9 a),Y k] (Y r):=bp aQ func12 rfl λw X c=>ad c [.z (.b (ab))] (an h λm d h=>ad c [au (WV G d)] (al (U c (aC h (λi h=>aq h▸U c aB) λi h=>ax (an h λo e h=>ad c [au (XX G e)] (al (U c (aC h (λl h=>aq h▸U c aB) λl h=>aq h▸ax (U c aB)))))))))
theorem L3{a}{k}{r}(h:zU n a k=aa r):ba G 13 [aG b4 a,Y k] (Y r):=by refine bp aQ func13 rfl λw X b=>U b (al (U b (bd (cq h (λe=>b0 [(0,aG b4 a),(1,Y e.1),(5,Y e.2)]) aM ?_))));rintro d ⟨q,s⟩ h;exact al (ad b [aI b4 a] (aC h (λi h=>ax (bC (al (an h λx c h=>ad b [aY b4 c] (aC h (λl h=>aq h▸U b aB) λl h=>ax (U b (al (ad b [aY b4 c] (aC h (λm h=>aq h▸U b aB) λm h=>ax (U b (al (ad b [aY b4 c] (aC h (λo h=>aq h▸U b aB) λo h=>ax (U b (al (ad b [aY b4 c] (aC h (λp h=>aq h▸U b aB) λp h=>ax (bf b (bf b (ay h)))))))))))))))))))) λi h=>aq h▸bq (U b aB)))
end
section
variable (G:cN){n:Nat}
theorem W8{a}{r}(h:A8 n a=aa r):cj G 56 [] [V.agg [cH a.name,aG ah a.b7]] (V.agg [cH r.name,ms 0 1 1 ah r.b7]) [aH 3 1 1 ah r.b7]:=cA aQ func56 rfl λw X e c i=>ad c [.z (.b (ab)),.z (.nat 20)] (ad c [.z (.nat 21)] (U c (an h λk d h=>aq h▸ad c [bg [] [22] (NF G d)] (U c (bF c [.cL 22 0 [] [20,21]] cT)))))
theorem WU{a}{r}(h:Gr n a=aa r):cj G 21 [] [aG a' a] (ms 0 1 2 a' r) [E.aN bD 1 1 (r.map a') []]:=by refine cA aQ func21 rfl λw X B c F=>U c (an h λH i h=>ad c [aI a' a,.z (.nat 20),.z (.dq 0 bD 1),b2 (mo a' i),aw (kq i).1] (al (U c (bd (cz h (λo y=>bj [(0,aG a' a),(3,ms 20 y 2 a' o.1),(4,Y o.2)] [(20,E.aN bD 1 y (o.1.map a') [])] [20]) 1 (aM) ?_)))));rintro m ⟨A,k⟩ C h;exact al (ad c [aI a' a] (aC h (λD h=>ax (bC (cW h λK p e s d b h=>an h λx l h=>aE c [.z (.gY 20 (0+bA k) 0 (a' d)),.z (.dt 20 31 (0+bA k) 1 (a' d)),aw (bY a' b),aw (bY a' b),aY a' p,bg [] [21] (W8 G s),aw (bK a' b),bw a' b,.z (.dq 21 bD 0),.z (.cP 20 21 (a' d) ((A.map a').set (0+bA k) (bM 1 (a' d) (a' e)))),.z (.gB 20 (bM 1 (a' d) (a' e)) (x.map a')),.z (.len 3 (x.map a').length),aw (bG (e.b7.map ah).length),aw (bG bD),aw (bY a' b),aw (bG ((A.map a').set (0+bA k) (bM 1 (a' d) (a' e)))),aw (e7 (bY a' b) (bM 1 (a' d) (a' e))),aw (mK (a:=(bM 1 (a' d) (a' e))) (q:=a' e) a' l rfl),aw (cQ a' l)] (bf c ⟨(x,wr (k+1)),C,h,aM⟩)))) λD h=>aq h▸bq (U c (bF c [.cL 20 0 [2,3] []] cT))))
theorem LO{a}{r}(h:Aa n a=aa r):cj G 304 [] [V.agg (cF a)] (V.agg [ms 0 1 1 ah r.aU,Y r.const]) [aH 3 1 1 ah r.aU]:=cA aQ func304 rfl λw X e c i=>ad c [.z (.b (ab)),.z (.nat 20)] (ad c [.z (.nat 21)] (an h λk d h=>aq h▸ad c [bg [] [22] (NF G d)] (U c (U c (bF c [.cL 22 0 [] [20,21]] cT)))))
theorem KZ{a}{r}(h:zS n a=aa r):cj G 255 [] [aG az a] (ms 0 1 2 az r) [E.aN bD 2 1 (r.map az) []]:=by refine cA aQ func255 rfl λw X B c F=>U c (an h λH i h=>ad c [aI az a,.z (.nat 20),.z (.dq 0 bD 2),b2 (mo az i),aw (kq i).1] (al (U c (bd (cz h (λo y=>bj [(0,aG az a),(3,ms 20 y 2 az o.1),(4,Y o.2)] [(20,E.aN bD 2 y (o.1.map az) [])] [20]) 1 (aM) ?_)))));rintro m ⟨A,k⟩ C h;exact al (ad c [aI az a] (aC h (λD h=>ax (bC (cW h λK p e s d b h=>an h λx l h=>aE c [.z (.dt 20 31 (0+bA k) 0 (az d)),.z (.gY 20 (0+bA k) 1 (az d)),aw (bY az b),aw (bY az b),aY az p,bg [] [21] (LO G s),aw (bK az b),bw az b,.z (.gB 20 (az d) ((A.map az).set (0+bA k) (bM 1 (az d) (az e)))),.z (.dq 21 bD 0),.z (.cP 20 21 (bM 1 (az d) (az e)) (x.map az)),.z (.len 3 (x.map az).length),aw (bY az b),aw (bG ((A.map az).set (0+bA k) (bM 1 (az d) (az e)))),aw (bG (e.aU.map ah).length),aw (bG bD),aw (e7 (bY az b) (bM 1 (az d) (az e))),aw (mK (a:=(bM 1 (az d) (az e))) (q:=az e) az l rfl),aw (cQ az l)] (bf c ⟨(x,wr (k+1)),C,h,aM⟩)))) λD h=>aq h▸bq (U c (bF c [.cL 20 0 [2,3] []] cT))))
theorem Y0{a}{r}(h:B' n a=aa r):cj G 197 [] [V.agg (iM a)] (V.agg [ms 0 1 2 az r.lo,ms 1 1 2 az r.aJ]) [E.aN bD 2 1 (r.lo.map az) [],E.aN bD 2 1 (r.aJ.map az) []]:=cA aQ func197 rfl λw X i c k=>ad c [.z (.b (ab)),.z (.nat 20)] (ad c [.z (.nat 21)] (an h λl d h=>ad c [bg [] [22] (KZ G d)] (an h λm e h=>aq h▸ad c [bg [] [23] (KZ G e)] (U c (bF c [.cL 22 0 [] [20,21]] (bF c [.cL 23 1 [] [20,21]] cT))))))
theorem W6{a}{r}(h:GK n a=aa r):cj G 119 [] [aG av a] (ms 0 1 2 av r) [E.aN bD 3 1 (r.map av) []]:=by refine cA aQ func119 rfl λw X B c F=>U c (an h λH i h=>ad c [aI av a,.z (.nat 20),.z (.dq 0 bD 3),b2 (mo av i),aw (kq i).1] (al (U c (bd (cz h (λo y=>bj [(0,aG av a),(3,ms 20 y 2 av o.1),(4,Y o.2)] [(20,E.aN bD 3 y (o.1.map av) [])] [20]) 1 (aM) ?_)))));rintro m ⟨A,k⟩ C h;exact al (ad c [aI av a] (aC h (λD h=>ax (bC (cW h λK p d s e b h=>an h λx l h=>aE c [.z (.dt 20 31 (0+bA k) 0 (av e)),.z (.dt 20 32 (0+bA k) 1 (av e)),aw (bY av b),aw (bY av b),aY av p,bg [] [21,22] (Y0 G s),aw (bK av b),bw av b,.z (.cP 20 22 (av e) ((A.map av).set (0+bA k) (bM 1 (av e) (av d)))),.z (.cP 20 21 (bM 1 (av e) (av d)) (x.map av)),.z (.len 3 (x.map av).length),aw (bG (d.aJ.map az).length),aw (bG bD),aw (bY av b),aw (bG ((A.map av).set (0+bA k) (bM 1 (av e) (av d)))),aw (bG (d.lo.map az).length),aw (bG bD),aw (e7 (bY av b) (bM 1 (av e) (av d))),aw (mK (a:=(bM 1 (av e) (av d))) (q:=av d) av l rfl),aw (cQ av l)] (bf c ⟨(x,wr (k+1)),C,h,aM⟩)))) λD h=>aq h▸bq (U c (bF c [.cL 20 0 [2,3] []] cT))))
theorem LP{a}{r}(h:Ab n a=aa r):cj G 256 [] [V.agg (gH a)] (V.agg [cH r.array,ms 0 1 2 az r.bB]) [E.aN bD 2 1 (r.bB.map az) []]:=cA aQ func256 rfl λw X e c i=>ad c [.z (.b (ab)),.z (.nat 20)] (ad c [.z (.nat 21)] (U c (an h λk d h=>aq h▸ad c [bg [] [22] (KZ G d)] (U c (bF c [.cL 22 0 [] [20,21]] cT)))))
theorem W7(G:cN)(n:Nat)(self:Expr->Option Expr)(l: ∀(C:Expr) {r:Expr},self C=aa r->cj G 257 [] [V.agg (dz C)] (V.agg [Y r.kind,Y r.num,ms 0 1 1 ah r.index.aU,Y r.index.const,cH r.read.array,ms 1 1 2 az r.read.bB,ms 2 1 7 be r.bm]) [aH 3 1 1 ah r.index.aU,E.aN bD 2 1 (r.read.bB.map az) [],E.aN bD 4 1 (r.bm.map be) []])(a:List Expr){r:(List Expr)}(h:GL n self a=aa r):cj G 305 [] [aG be a] (ms 0 1 7 be r) [E.aN bD 4 1 (r.map be) []]:=by refine cA aQ func305 rfl λw X F k L=>U k (an h λQ m h=>ad k [aI be a,.z (.nat 20),.z (.dq 0 bD 4),b2 (mo be m),aw (kq m).1] (al (U k (bd (cz h (λs D=>bj [(0,aG be a),(3,ms 20 D 7 be s.1),(4,Y s.2)] [(20,E.aN bD 4 D (s.1.map be) [])] [20]) 1 (aM) ?_)))));rintro p ⟨i,e⟩ H h;refine al (ad k [aI be a] (aC h (λK h=>ax (bC (cW h λx y c A b d h=>an h λB o h=>aE k [.z (.gY 20 (0+bA e) 0 (bx b)),.z (.gY 20 (0+bA e) 1 (bx b)),.z (.dt 20 31 (0+bA e) 2 (bx b)),.z (.gY 20 (0+bA e) 3 (bx b)),.z (.gY 20 (0+bA e) 4 (bx b)),.z (.dt 20 32 (0+bA e) 5 (bx b)),.z (.dt 20 33 (0+bA e) 6 (bx b)),.z (.row (bx x)),aw (e8 be d (dh b)),aw (e8 be d (dh b)),aw (e8 be d (dh b)),aw (e8 be d (dh b)),aw (e8 be d (dh b)),aw (e8 be d (dh b)),aw (e8 be d (dh b)),aw (fI be y (dh x)),bg [] [21,22,23] (l x A),.z (.row (bx b)),.z (.cP 20 23 (bx b) ((i.map be).set (0+bA e) (bM 6 (bx b) (bx c)))),.z (.cP 20 22 (bM 6 (bx b) (bx c)) ((i.map be).set (0+bA e) (bM 5 (bx b) (bx c)))),.z (.gB 20 (bM 5 (bx b) (bx c)) ((i.map be).set (0+bA e) (bM 4 (bx b) (bx c)))),.z (.gB 20 (bM 4 (bx b) (bx c)) ((i.map be).set (0+bA e) (bM 3 (bx b) (bx c)))),.z (.dq 21 bD 0),.z (.cP 20 21 (bM 3 (bx b) (bx c)) ((i.map be).set (0+bA e) (bM 2 (bx b) (bx c)))),.z (.gB 20 (bM 2 (bx b) (bx c)) ((i.map be).set (0+bA e) (bM 1 (bx b) (bx c)))),.z (.gB 20 (bM 1 (bx b) (bx c)) (B.map be)),.z (.len 3 (B.map be).length),aw (bK be d),aw (e8 be d (dh b)),aw (bG (c.bm.map be).length),aw (bG bD),aw (e8 be d (dh b)),aw (bG ((i.map be).set (0+bA e) (bM 6 (bx b) (bx c)))),aw (bG (c.read.bB.map az).length),aw (bG bD),aw (e7 (e8 be d (dh b)) (bM 6 (bx b) (bx c))),aw (hc (i.map be) (0+bA e) (bM 6 (bx b) (bx c)) (bM 5 (bx b) (bx c))),aw (e7 (e8 be d (dh b)) (bM 5 (bx b) (bx c))),aw (hc (i.map be) (0+bA e) (bM 5 (bx b) (bx c)) (bM 4 (bx b) (bx c))),aw (e7 (e8 be d (dh b)) (bM 4 (bx b) (bx c))),aw (hc (i.map be) (0+bA e) (bM 4 (bx b) (bx c)) (bM 3 (bx b) (bx c))),aw (bG (c.index.aU.map ah).length),aw (bG bD),aw (e7 (e8 be d (dh b)) (bM 3 (bx b) (bx c))),aw (hc (i.map be) (0+bA e) (bM 3 (bx b) (bx c)) (bM 2 (bx b) (bx c))),aw (e7 (e8 be d (dh b)) (bM 2 (bx b) (bx c))),aw (hc (i.map be) (0+bA e) (bM 2 (bx b) (bx c)) (bM 1 (bx b) (bx c))),aw (e7 (e8 be d (dh b)) (bM 1 (bx b) (bx c))),aw (mK (a:=(bM 1 (bx b) (bx c))) (q:=bx c) be o (dh c)),aw (cQ be o)] (bf k ⟨(B,wr (e+1)),H,h,aM⟩)))) λK h=>?_));obtain rfl:=aq h;exact bq (U k (bF k [.cL 20 0 [2,3] []] cT))
theorem Y1(G:cN): ∀(n:Nat) (a:Expr) {r:Expr} (h:qz n a=aa r),cj G 257 [] [V.agg (dz a)] (V.agg [Y r.kind,Y r.num,ms 0 1 1 ah r.index.aU,Y r.index.const,cH r.read.array,ms 1 1 2 az r.read.bB,ms 2 1 7 be r.bm]) [aH 3 1 1 ah r.index.aU,E.aN bD 2 1 (r.read.bB.map az) [],E.aN bD 4 1 (r.bm.map be) []]:=by
 intro n;induction n with
 |zero=>intro a r h;rw[qz.eq_def] at h;cases h
 |succ n k=>
  intro a r h;rw[qz.eq_def] at h;dsimp only at h;refine cA aQ func257 rfl λw X l c o=>ad c [.z (.b (ab)),.z (.nat 20)] (ad c [.z (.nat 21)] (U c (U c ?_)));obtain⟨p,d,h⟩:=c' h;refine ad c [bg [] [22] (LO G d)] ?_;obtain⟨q,e,h⟩:=c' h;refine ad c [bg [] [23] (LP G e)] ?_;obtain⟨s,i,h⟩:=c' h;cases h;exact ad c [bg [] [24] (W7 G n (qz n) (λm r h=>k m h) a.bm i)] (U c (bF c [.cL 22 0 [] [20,21]] (bF c [.cL 23 1 [] [20,21]] (bF c [.cL 24 2 [] [20,21]] cT))))
theorem YY{a}{r}(h:B8 n a=aa r):cj G 198 [] [V.agg (fL a)] (V.agg [cH r.write.array,ms 0 1 2 az r.write.bB,Y r.value.kind,Y r.value.num,ms 1 1 1 ah r.value.index.aU,Y r.value.index.const,cH r.value.read.array,ms 2 1 2 az r.value.read.bB,ms 3 1 7 be r.value.bm]) [E.aN bD 2 1 (r.write.bB.map az) [],aH 3 1 1 ah r.value.index.aU,E.aN bD 2 1 (r.value.read.bB.map az) [],E.aN bD 4 1 (r.value.bm.map be) []]:=cA aQ func198 rfl λw X i c k=>ad c [.z (.b (ab)),.z (.nat 20)] (ad c [.z (.nat 21)] (an h λl d h=>ad c [bg [] [22] (LP G d)] (an h λm e h=>aq h▸ad c [bg [] [23,24,25] (Y1 G n a.value e)] (U c (bF c [.cL 22 0 [] [20,21]] (bF c [.cL 23 1 [] [20,21]] (bF c [.cL 24 2 [] [20,21]] (bF c [.cL 25 3 [] [20,21]] cT))))))))
theorem W4{a}{r}(h:GI n a=aa r):cj G 120 [] [aG aA a] (ms 0 1 9 aA r) [E.aN bD 5 1 (r.map aA) []]:=by refine cA aQ func120 rfl λw X B k F=>U k (an h λH l h=>ad k [aI aA a,.z (.nat 20),.z (.dq 0 bD 5),b2 (mo aA l),aw (kq l).1] (al (U k (bd (cz h (λp A=>bj [(0,aG aA a),(3,ms 20 A 9 aA p.1),(4,Y p.2)] [(20,E.aN bD 5 A (p.1.map aA) [])] [20]) 1 (aM) ?_)))));rintro o ⟨i,e⟩ C h;exact al (ad k [aI aA a] (aC h (λD h=>ax (bC (cW h λK s c x b d h=>an h λy m h=>aE k [.z (.gY 20 (0+bA e) 0 (aA b)),.z (.dt 20 31 (0+bA e) 1 (aA b)),.z (.gY 20 (0+bA e) 2 (aA b)),.z (.gY 20 (0+bA e) 3 (aA b)),.z (.dt 20 32 (0+bA e) 4 (aA b)),.z (.gY 20 (0+bA e) 5 (aA b)),.z (.gY 20 (0+bA e) 6 (aA b)),.z (.dt 20 33 (0+bA e) 7 (aA b)),.z (.dt 20 34 (0+bA e) 8 (aA b)),aw (bY aA d),aw (bY aA d),aw (bY aA d),aw (bY aA d),aw (bY aA d),aw (bY aA d),aw (bY aA d),aw (bY aA d),aw (bY aA d),aY aA s,bg [] [21,22,23,24] (YY G x),aw (bK aA d),bw aA d,.z (.cP 20 24 (aA b) ((i.map aA).set (0+bA e) (bM 8 (aA b) (aA c)))),.z (.cP 20 23 (bM 8 (aA b) (aA c)) ((i.map aA).set (0+bA e) (bM 7 (aA b) (aA c)))),.z (.gB 20 (bM 7 (aA b) (aA c)) ((i.map aA).set (0+bA e) (bM 6 (aA b) (aA c)))),.z (.gB 20 (bM 6 (aA b) (aA c)) ((i.map aA).set (0+bA e) (bM 5 (aA b) (aA c)))),.z (.dq 22 bD 0),.z (.cP 20 22 (bM 5 (aA b) (aA c)) ((i.map aA).set (0+bA e) (bM 4 (aA b) (aA c)))),.z (.gB 20 (bM 4 (aA b) (aA c)) ((i.map aA).set (0+bA e) (bM 3 (aA b) (aA c)))),.z (.gB 20 (bM 3 (aA b) (aA c)) ((i.map aA).set (0+bA e) (bM 2 (aA b) (aA c)))),.z (.cP 20 21 (bM 2 (aA b) (aA c)) ((i.map aA).set (0+bA e) (bM 1 (aA b) (aA c)))),.z (.gB 20 (bM 1 (aA b) (aA c)) (y.map aA)),.z (.len 3 (y.map aA).length),aw (bG (c.value.bm.map be).length),aw (bG bD),aw (bY aA d),aw (bG ((i.map aA).set (0+bA e) (bM 8 (aA b) (aA c)))),aw (bG (c.value.read.bB.map az).length),aw (bG bD),aw (e7 (bY aA d) (bM 8 (aA b) (aA c))),aw (hc (i.map aA) (0+bA e) (bM 8 (aA b) (aA c)) (bM 7 (aA b) (aA c))),aw (e7 (bY aA d) (bM 7 (aA b) (aA c))),aw (hc (i.map aA) (0+bA e) (bM 7 (aA b) (aA c)) (bM 6 (aA b) (aA c))),aw (e7 (bY aA d) (bM 6 (aA b) (aA c))),aw (hc (i.map aA) (0+bA e) (bM 6 (aA b) (aA c)) (bM 5 (aA b) (aA c))),aw (bG (c.value.index.aU.map ah).length),aw (bG bD),aw (e7 (bY aA d) (bM 5 (aA b) (aA c))),aw (hc (i.map aA) (0+bA e) (bM 5 (aA b) (aA c)) (bM 4 (aA b) (aA c))),aw (e7 (bY aA d) (bM 4 (aA b) (aA c))),aw (hc (i.map aA) (0+bA e) (bM 4 (aA b) (aA c)) (bM 3 (aA b) (aA c))),aw (e7 (bY aA d) (bM 3 (aA b) (aA c))),aw (hc (i.map aA) (0+bA e) (bM 3 (aA b) (aA c)) (bM 2 (aA b) (aA c))),aw (bG (c.write.bB.map az).length),aw (bG bD),aw (e7 (bY aA d) (bM 2 (aA b) (aA c))),aw (hc (i.map aA) (0+bA e) (bM 2 (aA b) (aA c)) (bM 1 (aA b) (aA c))),aw (e7 (bY aA d) (bM 1 (aA b) (aA c))),aw (mK (a:=(bM 1 (aA b) (aA c))) (q:=aA c) aA m rfl),aw (cQ aA m)] (bf k ⟨(y,wr (e+1)),C,h,aM⟩)))) λD h=>aq h▸bq (U k (bF k [.cL 20 0 [2,3] []] cT))))
theorem YZ{a}{r}(h:B9 n a=aa r):cj G 57 [] [V.agg (kC a)] (V.agg [ms 0 1 2 av r.nest,ms 1 1 9 aA r.body]) [E.aN bD 3 1 (r.nest.map av) [],E.aN bD 5 1 (r.body.map aA) []]:=cA aQ func57 rfl λw X i c k=>ad c [.z (.b (ab)),.z (.nat 20)] (ad c [.z (.nat 21)] (an h λl d h=>ad c [bg [] [22] (W6 G d)] (an h λm e h=>aq h▸ad c [bg [] [23] (W4 G e)] (U c (bF c [.cL 22 0 [] [20,21]] (bF c [.cL 23 1 [] [20,21]] cT))))))
theorem W5{a}{r}(h:GJ n a=aa r):cj G 22 [] [aG ar a] (ms 0 1 2 ar r) [E.aN bD 6 1 (r.map ar) []]:=by refine cA aQ func22 rfl λw X B c F=>U c (an h λH i h=>ad c [aI ar a,.z (.nat 20),.z (.dq 0 bD 6),b2 (mo ar i),aw (kq i).1] (al (U c (bd (cz h (λo y=>bj [(0,aG ar a),(3,ms 20 y 2 ar o.1),(4,Y o.2)] [(20,E.aN bD 6 y (o.1.map ar) [])] [20]) 1 (aM) ?_)))));rintro m ⟨A,k⟩ C h;exact al (ad c [aI ar a] (aC h (λD h=>ax (bC (cW h λK p d s e b h=>an h λx l h=>aE c [.z (.dt 20 31 (0+bA k) 0 (ar e)),.z (.dt 20 32 (0+bA k) 1 (ar e)),aw (bY ar b),aw (bY ar b),aY ar p,bg [] [21,22] (YZ G s),aw (bK ar b),bw ar b,.z (.cP 20 22 (ar e) ((A.map ar).set (0+bA k) (bM 1 (ar e) (ar d)))),.z (.cP 20 21 (bM 1 (ar e) (ar d)) (x.map ar)),.z (.len 3 (x.map ar).length),aw (bG (d.body.map aA).length),aw (bG bD),aw (bY ar b),aw (bG ((A.map ar).set (0+bA k) (bM 1 (ar e) (ar d)))),aw (bG (d.nest.map av).length),aw (bG bD),aw (e7 (bY ar b) (bM 1 (ar e) (ar d))),aw (mK (a:=(bM 1 (ar e) (ar d))) (q:=ar d) ar l rfl),aw (cQ ar l)] (bf c ⟨(x,wr (k+1)),C,h,aM⟩)))) λD h=>aq h▸bq (U c (bF c [.cL 20 0 [2,3] []] cT))))
theorem Ec{a}{r}(h:tG n a=aa r):cj G 6 [] [V.agg (b9 a)] (V.agg [ms 0 1 2 a' r.bc,ms 1 1 2 ar r.parts]) [E.aN bD 1 1 (r.bc.map a') [],E.aN bD 6 1 (r.parts.map ar) []]:=cA aQ func6 rfl λw X i c k=>ad c [.z (.b (ab)),.z (.nat 20)] (ad c [.z (.nat 21)] (an h λl d h=>ad c [bg [] [22] (WU G d)] (an h λm e h=>aq h▸ad c [bg [] [23] (W5 G e)] (U c (bF c [.cL 22 0 [] [20,21]] (bF c [.cL 23 1 [] [20,21]] cT))))))
theorem EO{a}{k}{r}(h:tP n a k=aa r):cj G 79 [aH 3 1 1 ah a] [ms 0 1 1 ah a,Y k] (Y r.1) [aH 3 1 1 ah r.2]:=by refine cA aQ func79 rfl λw X l b p=>U b (al (U b (bd (cq h (λc=>bj [(0,ms 0 1 1 ah c.2.1),(1,Y c.1),(5,Y c.2.2)] [(0,aH 3 1 1 ah c.2.1)] [0]) aM ?_))));rintro d ⟨ct,m,q⟩ h;exact al (ad b [aI ah m] (aC h (λo h=>ax (bC (an h λy e h=>an h λz i h=>ad b [aw (bK ah e),bw ah e,.z (.rows (bL ah z)),.z (.len 0 (bL ah z).length),aw (str ah i),aw (cQ ah i)] (bf b (bf b (ay h)))))) λo h=>aq h▸bq (U b cT)))
theorem WW{a}{k}{r}(h:EF n a k=aa r):cj G 30 [E.aN bD 1 1 (bL a' a) []] [ms 0 1 2 a' a,Y k] (Y r.1) [E.aN bD 1 1 (r.2.map a') []]:=by refine cA aQ func30 rfl λw X B b D=>U b (al (U b (bd (cq h (λi=>bj [(0,ms 0 1 2 a' i.2.1),(1,Y i.1),(5,Y i.2.2)] [(0,E.aN bD 1 1 (i.2.1.map a') [])] [0]) aM ?_))));rintro l ⟨ct,o,m⟩ h;exact al (ad b [aI a' o] (aC h (λC h=>ax (bC (an h λy c h=>c6 b [.gY 0 (0+bA m) 0 (a' y),.dt 0 31 (0+bA m) 1 (a' y),.en 31] (a2 (bY a' c) (bY a' c)) (an h λd p h=>ad b [au (ry G p),aw (bK a' c),bw a' c] (U b (an h λe s h=>an h λF x h=>aE b [aw (bK a' c),bw a' c,bg [31] [] (EO G s)] (an h λz A h=>c6 b [.dq 31 bD 0,.cP 0 31 (a' y) ((o.map a').set (0+bA m) (bM 1 (a' y) (a' (⟨d,e.2⟩:ch)))),.gB 0 (bM 1 (a' y) (a' (⟨d,e.2⟩:ch))) (bL a' z),.len 0 (bL a' z).length] (hM (k8 ah x) (bG bD) (bY a' c) (bG ((o.map a').set (0+bA m) (bM 1 (a' y) (a' (⟨d,e.2⟩:ch))))) (e7 (bY a' c) (bM 1 (a' y) (a' (⟨d,e.2⟩:ch)))) (mK (a:=(bM 1 (a' y) (a' (⟨d,e.2⟩:ch)))) (q:=a' (⟨d,e.2⟩:ch)) a' A rfl) (cQ a' A)) (bf b (ay h))))))))) λC h=>aq h▸bq (U b cT)))
theorem zn{a}{k}{r}(h:ri n a k=aa r):cj G 170 [E.aN bD 2 1 (bL az a) []] [ms 0 1 2 az a,Y k] (Y r.1) [E.aN bD 2 1 (r.2.map az) []]:=by refine cA aQ func170 rfl λw X x c B=>U c (al (U c (bd (cq h (λe=>bj [(0,ms 0 1 2 az e.2.1),(1,Y e.1),(5,Y e.2.2)] [(0,E.aN bD 2 1 (e.2.1.map az) [])] [0]) aM ?_))));rintro i ⟨ct,m,l⟩ h;exact al (ad c [aI az m] (aC h (λA h=>ax (bC (an h λy d h=>c6 c [.dt 0 31 (0+bA l) 0 (az y),.gY 0 (0+bA l) 1 (az y),.en 31] (a2 (bY az d) (bY az d)) (an h λb o h=>an h λC p h=>ad c [aw (bK az d),bw az d,bg [31] [] (EO G o)] (ad c [aw (bK az d),bw az d] (bf c (an h λz s h=>c6 c [.gB 0 (az y) ((m.map az).set (0+bA l) (bM 1 (az y) (az (⟨b.2,b.1⟩:aF)))),.dq 31 bD 0,.cP 0 31 (bM 1 (az y) (az (⟨b.2,b.1⟩:aF))) (bL az z),.len 0 (bL az z).length] (hM (bY az d) (bG ((m.map az).set (0+bA l) (bM 1 (az y) (az (⟨b.2,b.1⟩:aF))))) (k8 ah p) (bG bD) (e7 (bY az d) (bM 1 (az y) (az (⟨b.2,b.1⟩:aF)))) (mK (a:=(bM 1 (az y) (az (⟨b.2,b.1⟩:aF)))) (q:=az (⟨b.2,b.1⟩:aF)) az s rfl) (cQ az s)) (bf c (ay h))))))))) λA h=>aq h▸bq (U c cT)))
theorem X3{a}{k}{r}(h:E4 n a k=aa r):cj G 80 [E.aN bD 3 1 (bL av a) []] [ms 0 1 2 av a,Y k] (Y r.1) [E.aN bD 3 1 (r.2.map av) []]:=by refine cA aQ func80 rfl λw X C b F=>U b (al (U b (bd (cq h (λi=>bj [(0,ms 0 1 2 av i.2.1),(1,Y i.1),(5,Y i.2.2)] [(0,E.aN bD 3 1 (i.2.1.map av) [])] [0]) aM ?_))));rintro l ⟨ct,o,m⟩ h;exact al (ad b [aI av o] (aC h (λD h=>ax (bC (an h λy c h=>c6 b [.dt 0 31 (0+bA m) 0 (av y),.dt 0 32 (0+bA m) 1 (av y)] (a2 (bY av c) (bY av c)) (an h λd p h=>an h λH s h=>ad b [aw (bK av c),bw av c,bg [31] [] (zn G p)] (an h λe x h=>an h λK A h=>aE b [aw (bK av c),bw av c,bg [32] [] (zn G x)] (an h λz B h=>c6 b [.cP 0 32 (av y) ((o.map av).set (0+bA m) (bM 1 (av y) (av (⟨d.2,e.2⟩:Loop)))),.cP 0 31 (bM 1 (av y) (av (⟨d.2,e.2⟩:Loop))) (bL av z),.len 0 (bL av z).length] (a9 (k8 az A) (bG bD) (bY av c) (bG ((o.map av).set (0+bA m) (bM 1 (av y) (av (⟨d.2,e.2⟩:Loop))))) (k8 az s) (bG bD) (e7 (bY av c) (bM 1 (av y) (av (⟨d.2,e.2⟩:Loop)))) (mK (a:=(bM 1 (av y) (av (⟨d.2,e.2⟩:Loop)))) (q:=av (⟨d.2,e.2⟩:Loop)) av B rfl) (cQ av B)) (bf b (ay h)))))))) λD h=>aq h▸bq (U b cT)))
theorem X4(G:cN): ∀(n:Nat) (a:List Expr) (k:Int) {r:Int×List Expr} (h:r4 n a k=aa r),cj G 171 [E.aN bD 4 1 (bL be a) []] [ms 0 1 7 be a,Y k] (Y r.1) [E.aN bD 4 1 (r.2.map be) []]:=by
 intro n;induction n with
 |zero=>intro a k r h;rw[r4.eq_def] at h;cases h
 |succ n L=>
  intro a k r h;rw[r4.eq_def] at h;dsimp only at h;refine cA aQ func171 rfl λw X Q m W=>U m (al (U m (bd (cq h (λp=>bj [(0,ms 0 1 7 be p.2.1),(1,Y p.1),(5,Y p.2.2)] [(0,E.aN bD 4 1 (p.2.1.map be) [])] [0]) aM ?_))));rintro s ⟨ct,o,l⟩ h;refine al (ad m [aI be o] (aC h (λR h=>?_) λR h=>?_))
  ·refine ax (bC ?_);obtain⟨y,i,h⟩:=c' h;refine c6 m [.gY 0 (0+bA l) 0 (bx y),.gY 0 (0+bA l) 1 (bx y),.dt 0 31 (0+bA l) 2 (bx y),.gY 0 (0+bA l) 3 (bx y),.gY 0 (0+bA l) 4 (bx y),.dt 0 32 (0+bA l) 5 (bx y),.dt 0 33 (0+bA l) 6 (bx y),.en 31] (hM (e8 be i (dh y)) (e8 be i (dh y)) (e8 be i (dh y)) (e8 be i (dh y)) (e8 be i (dh y)) (e8 be i (dh y)) (e8 be i (dh y))) (ad m [.z (.row (bx y)),aw (bK be i),aw (e8 be i (dh y))] (U m (ad m [.z (.row (bx y)),aw (bK be i),aw (e8 be i (dh y))] ?_)));refine U m ?_;obtain⟨c,x,h⟩:=c' h;obtain⟨f,A,h⟩:=c' h;refine ad m [.z (.row (bx y)),aw (bK be i),aw (e8 be i (dh y)),bg [31] [] (EO G x)] (ad m [.z (.row (bx y)),aw (bK be i),aw (e8 be i (dh y))] (U m ?_));obtain⟨d,B,h⟩:=c' h;refine ad m [au (ry G B),.z (.row (bx y)),aw (bK be i),aw (e8 be i (dh y))] (U m ?_);obtain⟨b,C,h⟩:=c' h;obtain⟨g,D,h⟩:=c' h;refine ad m [.z (.row (bx y)),aw (bK be i),aw (e8 be i (dh y)),bg [32] [] (zn G C)] ?_;obtain⟨e,F,h⟩:=c' h;obtain⟨j,H,h⟩:=c' h;refine aE m [.z (.row (bx y)),aw (bK be i),aw (e8 be i (dh y)),bg [33] [] (L (y.bm) (b.1) F)] ?_;obtain⟨z,K,h⟩:=c' h;exact c6 m [.cP 0 33 (bx y) ((o.map be).set (0+bA l) (bM 6 (bx y) (bx (fb ct c d b e)))),.cP 0 32 (bM 6 (bx y) (bx (fb ct c d b e))) ((o.map be).set (0+bA l) (bM 5 (bx y) (bx (fb ct c d b e)))),.gB 0 (bM 5 (bx y) (bx (fb ct c d b e))) ((o.map be).set (0+bA l) (bM 4 (bx y) (bx (fb ct c d b e)))),.gB 0 (bM 4 (bx y) (bx (fb ct c d b e))) ((o.map be).set (0+bA l) (bM 3 (bx y) (bx (fb ct c d b e)))),.dq 31 bD 0,.cP 0 31 (bM 3 (bx y) (bx (fb ct c d b e))) ((o.map be).set (0+bA l) (bM 2 (bx y) (bx (fb ct c d b e)))),.gB 0 (bM 2 (bx y) (bx (fb ct c d b e))) ((o.map be).set (0+bA l) (bM 1 (bx y) (bx (fb ct c d b e)))),.gB 0 (bM 1 (bx y) (bx (fb ct c d b e))) (bL be z),.len 0 (bL be z).length] (eM (k8 be H) (eM (bG bD) (eM (e8 be i (dh y)) (eM (bG ((o.map be).set (0+bA l) (bM 6 (bx y) (bx (fb ct c d b e))))) (eM (k8 az D) (eM (bG bD) (eM (e7 (e8 be i (dh y)) (bM 6 (bx y) (bx (fb ct c d b e)))) (eM (hc (o.map be) (0+bA l) (bM 6 (bx y) (bx (fb ct c d b e))) (bM 5 (bx y) (bx (fb ct c d b e)))) (eM (e7 (e8 be i (dh y)) (bM 5 (bx y) (bx (fb ct c d b e)))) (a12 (hc (o.map be) (0+bA l) (bM 5 (bx y) (bx (fb ct c d b e))) (bM 4 (bx y) (bx (fb ct c d b e)))) (e7 (e8 be i (dh y)) (bM 4 (bx y) (bx (fb ct c d b e)))) (hc (o.map be) (0+bA l) (bM 4 (bx y) (bx (fb ct c d b e))) (bM 3 (bx y) (bx (fb ct c d b e)))) (k8 ah A) (bG bD) (e7 (e8 be i (dh y)) (bM 3 (bx y) (bx (fb ct c d b e)))) (hc (o.map be) (0+bA l) (bM 3 (bx y) (bx (fb ct c d b e))) (bM 2 (bx y) (bx (fb ct c d b e)))) (e7 (e8 be i (dh y)) (bM 2 (bx y) (bx (fb ct c d b e)))) (hc (o.map be) (0+bA l) (bM 2 (bx y) (bx (fb ct c d b e))) (bM 1 (bx y) (bx (fb ct c d b e)))) (e7 (e8 be i (dh y)) (bM 1 (bx y) (bx (fb ct c d b e)))) (mK (a:=(bM 1 (bx y) (bx (fb ct c d b e)))) (q:=bx (fb ct c d b e)) be K (dh _)) (cQ be K))))))))))) (bf m (ay h))
  cases h;exact bq (U m cT)
theorem X0{a}{k}{r}(h:Fa n a k=aa r):cj G 81 [E.aN bD 5 1 (bL aA a) []] [ms 0 1 9 aA a,Y k] (Y r.1) [E.aN bD 5 1 (r.2.map aA) []]:=by refine cA aQ func81 rfl λw X g p t=>U p (al (U p (bd (cq h (λx=>bj [(0,ms 0 1 9 aA x.2.1),(1,Y x.1),(5,Y x.2.2)] [(0,E.aN bD 5 1 (x.2.1.map aA) [])] [0]) aM ?_))));rintro A ⟨ct,s,o⟩ h;exact al (ad p [aI aA s] (aC h (λj h=>ax (bC (an h λy m h=>c6 p [.gY 0 (0+bA o) 0 (aA y),.dt 0 31 (0+bA o) 1 (aA y),.gY 0 (0+bA o) 2 (aA y),.gY 0 (0+bA o) 3 (aA y),.dt 0 32 (0+bA o) 4 (aA y),.gY 0 (0+bA o) 5 (aA y),.gY 0 (0+bA o) 6 (aA y),.dt 0 33 (0+bA o) 7 (aA y),.dt 0 34 (0+bA o) 8 (aA y),.en 32] (a9 (bY aA m) (bY aA m) (bY aA m) (bY aA m) (bY aA m) (bY aA m) (bY aA m) (bY aA m) (bY aA m)) (an h λc B h=>ad p [au (ry G B),aw (bK aA m),bw aA m] (U p (an h λd C h=>an h λu D h=>ad p [aw (bK aA m),bw aA m,bg [31] [] (zn G C)] (ad p [aw (bK aA m),bw aA m] (U p (ad p [aw (bK aA m),bw aA m] (U p (an h λe F h=>an h λv H h=>ad p [aw (bK aA m),bw aA m,bg [32] [] (EO G F)] (ad p [aw (bK aA m),bw aA m] (U p (an h λi K h=>ad p [au (ry G K),aw (bK aA m),bw aA m] (U p (an h λb L h=>an h λI Q h=>ad p [aw (bK aA m),bw aA m,bg [33] [] (zn G L)] (an h λl R h=>an h λM W h=>aE p [aw (bK aA m),bw aA m,bg [34] [] (X4 G n y.value.bm b.1 R)] (an h λz f h=>c6 p [.cP 0 34 (aA y) ((s.map aA).set (0+bA o) (bM 8 (aA y) (aA (eD c d e i b l)))),.cP 0 33 (bM 8 (aA y) (aA (eD c d e i b l))) ((s.map aA).set (0+bA o) (bM 7 (aA y) (aA (eD c d e i b l)))),.gB 0 (bM 7 (aA y) (aA (eD c d e i b l))) ((s.map aA).set (0+bA o) (bM 6 (aA y) (aA (eD c d e i b l)))),.gB 0 (bM 6 (aA y) (aA (eD c d e i b l))) ((s.map aA).set (0+bA o) (bM 5 (aA y) (aA (eD c d e i b l)))),.dq 32 bD 0,.cP 0 32 (bM 5 (aA y) (aA (eD c d e i b l))) ((s.map aA).set (0+bA o) (bM 4 (aA y) (aA (eD c d e i b l)))),.gB 0 (bM 4 (aA y) (aA (eD c d e i b l))) ((s.map aA).set (0+bA o) (bM 3 (aA y) (aA (eD c d e i b l)))),.gB 0 (bM 3 (aA y) (aA (eD c d e i b l))) ((s.map aA).set (0+bA o) (bM 2 (aA y) (aA (eD c d e i b l)))),.cP 0 31 (bM 2 (aA y) (aA (eD c d e i b l))) ((s.map aA).set (0+bA o) (bM 1 (aA y) (aA (eD c d e i b l)))),.gB 0 (bM 1 (aA y) (aA (eD c d e i b l))) (bL aA z),.len 0 (bL aA z).length] (eM (k8 be W) (eM (bG bD) (eM (bY aA m) (eM (bG ((s.map aA).set (0+bA o) (bM 8 (aA y) (aA (eD c d e i b l))))) (eM (k8 az Q) (eM (bG bD) (eM (e7 (bY aA m) (bM 8 (aA y) (aA (eD c d e i b l)))) (eM (hc (s.map aA) (0+bA o) (bM 8 (aA y) (aA (eD c d e i b l))) (bM 7 (aA y) (aA (eD c d e i b l)))) (eM (e7 (bY aA m) (bM 7 (aA y) (aA (eD c d e i b l)))) (eM (hc (s.map aA) (0+bA o) (bM 7 (aA y) (aA (eD c d e i b l))) (bM 6 (aA y) (aA (eD c d e i b l)))) (eM (e7 (bY aA m) (bM 6 (aA y) (aA (eD c d e i b l)))) (eM (hc (s.map aA) (0+bA o) (bM 6 (aA y) (aA (eD c d e i b l))) (bM 5 (aA y) (aA (eD c d e i b l)))) (eM (k8 ah H) (eM (bG bD) (eM (e7 (bY aA m) (bM 5 (aA y) (aA (eD c d e i b l)))) (a12 (hc (s.map aA) (0+bA o) (bM 5 (aA y) (aA (eD c d e i b l))) (bM 4 (aA y) (aA (eD c d e i b l)))) (e7 (bY aA m) (bM 4 (aA y) (aA (eD c d e i b l)))) (hc (s.map aA) (0+bA o) (bM 4 (aA y) (aA (eD c d e i b l))) (bM 3 (aA y) (aA (eD c d e i b l)))) (e7 (bY aA m) (bM 3 (aA y) (aA (eD c d e i b l)))) (hc (s.map aA) (0+bA o) (bM 3 (aA y) (aA (eD c d e i b l))) (bM 2 (aA y) (aA (eD c d e i b l)))) (k8 az D) (bG bD) (e7 (bY aA m) (bM 2 (aA y) (aA (eD c d e i b l)))) (hc (s.map aA) (0+bA o) (bM 2 (aA y) (aA (eD c d e i b l))) (bM 1 (aA y) (aA (eD c d e i b l)))) (e7 (bY aA m) (bM 1 (aA y) (aA (eD c d e i b l)))) (mK (a:=(bM 1 (aA y) (aA (eD c d e i b l)))) (q:=aA (eD c d e i b l)) aA f rfl) (cQ aA f))))))))))))))))) (bf p (ay h)))))))))))))))))))) λj h=>aq h▸bq (U p cT)))
theorem X2{a}{k}{r}(h:zW n a k=aa r):cj G 31 [E.aN bD 6 1 (bL ar a) []] [ms 0 1 2 ar a,Y k] (Y r.1) [E.aN bD 6 1 (r.2.map ar) []]:=by refine cA aQ func31 rfl λw X C b F=>U b (al (U b (bd (cq h (λi=>bj [(0,ms 0 1 2 ar i.2.1),(1,Y i.1),(5,Y i.2.2)] [(0,E.aN bD 6 1 (i.2.1.map ar) [])] [0]) aM ?_))));rintro l ⟨ct,o,m⟩ h;exact al (ad b [aI ar o] (aC h (λD h=>ax (bC (an h λy c h=>c6 b [.dt 0 31 (0+bA m) 0 (ar y),.dt 0 32 (0+bA m) 1 (ar y)] (a2 (bY ar c) (bY ar c)) (an h λd p h=>an h λH s h=>ad b [aw (bK ar c),bw ar c,bg [31] [] (X3 G p)] (an h λe x h=>an h λK A h=>aE b [aw (bK ar c),bw ar c,bg [32] [] (X0 G x)] (an h λz B h=>c6 b [.cP 0 32 (ar y) ((o.map ar).set (0+bA m) (bM 1 (ar y) (ar (⟨d.2,e.2⟩:Part)))),.cP 0 31 (bM 1 (ar y) (ar (⟨d.2,e.2⟩:Part))) (bL ar z),.len 0 (bL ar z).length] (a9 (k8 aA A) (bG bD) (bY ar c) (bG ((o.map ar).set (0+bA m) (bM 1 (ar y) (ar (⟨d.2,e.2⟩:Part))))) (k8 av s) (bG bD) (e7 (bY ar c) (bM 1 (ar y) (ar (⟨d.2,e.2⟩:Part)))) (mK (a:=(bM 1 (ar y) (ar (⟨d.2,e.2⟩:Part)))) (q:=ar (⟨d.2,e.2⟩:Part)) ar B rfl) (cQ ar B)) (bf b (ay h)))))))) λD h=>aq h▸bq (U b cT)))
theorem LC{a}{k}{r}(h:zu n a k=aa r):cj G 10 [E.aN bD 1 1 (bL a' a.bc) [],E.aN bD 6 1 (bL ar a.parts) []] [V.agg [ms 0 1 2 a' a.bc,ms 1 1 2 ar a.parts],Y k] (Y r.1) [E.aN bD 1 1 (r.2.1.map a') [],E.aN bD 6 1 (r.2.2.map ar) []]:=cA aQ func10 rfl λw X e b i=>an h λl c h=>an h λm d h=>aq h▸ad b [.z (.nat 20)] (ad b [bg [0] [] (WW G c)] (ad b [bg [1] [] (X2 G d)] (U b cT)))
end
section
variable (G:cN){n:Nat}
def jD(j:Nat)(x:Expr):Expr:=⟨x.kind,x.num,⟨bif Nat.blt 0 j then x.index.aU else [],x.index.const⟩,⟨x.read.array,bif Nat.blt 1 j then x.read.bB else []⟩,bif Nat.blt 2 j then x.bm else []⟩
def hW(j:Nat)(x:Stmt):Stmt:=⟨⟨x.write.array,bif Nat.blt 0 j then x.write.bB else []⟩,jD (j-1) x.value⟩
theorem Lt{a}{r}(h:pU n a=aa r):cj G 208 [] [aG az a] (ms 0 1 2 az r) [E.aN bD 2 1 (r.map az) []]:=by refine cA aQ func208 rfl λw X q b B=>U b (U b (al (ad b [aI az a] (bd (bF b [.grow 3 20 81,.dq 20 bD 2] (cz h (λi p=>bj [(3,ms 20 p 2 az i.1),(6,aG az a),(7,Y (a.length:Int)),(8,Y i.2)] [(20,E.aN bD 2 p (i.1.map az) [])] [20]) 1 (aM) ?_))))));rintro e ⟨k,s⟩ x h;exact U b (cU h (λy h=>ax (bC (an h λA l h=>ad b [aY az l,.z (.nat 21)] (bP h λc m o d h=>aE b [bg [] [22] (v' G n A m),.z (.lt 24 bD 2),.z (.rows (bL az (k++[(⟨[],c.const⟩:aF)]))),aw (bG (aR bD 2)),aw (lZ az (⟨[],c.const⟩:aF) d),bQ 2 f' k,bQ 2 f' [(⟨[],c.const⟩:aF)]] (c6 b [.dq 22 bD 0,.cP 20 22 (az (⟨[],c.const⟩:aF)) (o.map az),.len 3 (o.map az).length] (a5 (bG (c.aU.map ah).length) (bG bD) (hg az k (⟨[],c.const⟩:aF)) (mA az (ph:=(⟨[],c.const⟩:aF)) d rfl) (l2 az (⟨[],c.const⟩:aF) d)) (bf b ⟨(o,wr (s+1)),(x+1),h,aM⟩)))))) λy h=>aq h▸bq (U b (bF b [.cL 20 0 [2,3] []] cT)))
theorem Yi{nest}{r}(h:rL n nest=aa r):cj G 127 [] [aG av nest] (ms 0 1 2 av r) [E.aN bD 3 1 (r.map av) []]:=by refine cA aQ func127 rfl λw X q a C=>U a (U a (al (ad a [aI av nest] (bd (bF a [.grow 3 20 115,.dq 20 bD 3] (cz h (λi p=>bj [(3,ms 20 p 2 av i.1),(6,aG av nest),(7,Y (nest.length:Int)),(8,Y i.2)] [(20,E.aN bD 3 p (i.1.map av) [])] [20]) 1 (aM) ?_))))));rintro e ⟨c,s⟩ x h;exact U a (cU h (λA h=>ax (bC (an h λD k h=>ad a [aY av k,.z (.nat 21)] (cW h λd l B m o b h=>bJ a bI [bg [] [22] (Lt G l),bg [] [23] (Lt G m),.z (.lt 24 bD 3),.z (.rows (bL av (c++[(⟨[],[]⟩:Loop)]))),aw (bG (aR bD 3)),aw (lZ av (⟨[],[]⟩:Loop) b),bQ 2 fx c,bQ 2 fx [(⟨[],[]⟩:Loop)]] (c6 a [.cP 20 22 (av (⟨[],[]⟩:Loop)) (bL av (c++[(⟨d,[]⟩:Loop)])),.cP 20 23 (av (⟨d,[]⟩:Loop)) (o.map av),.len 3 (o.map av).length] (a9 (bG (d.map az).length) (bG bD) (hg av c (⟨[],[]⟩:Loop)) (nF av c (ph:=(⟨[],[]⟩:Loop)) (y:=(⟨d,[]⟩:Loop)) rfl) (bG (B.map az).length) (bG bD) (hg av c (⟨d,[]⟩:Loop)) (mA av (ph:=(⟨d,[]⟩:Loop)) b rfl) (l2 av (⟨[],[]⟩:Loop) b)) (bf a ⟨(o,wr (s+1)),(x+1),h,aM⟩)))))) λA h=>aq h▸bq (U a (bF a [.cL 20 0 [2,3] []] cT)))
theorem LH(G:cN)(n:Nat)(a:cw)(c:FuncId)(change:aF->Option aF)(d: ∀(x:aF) r,change x=aa r->cj G c [] [V.agg (cF x)] (V.agg [ms 0 1 1 ah r.aU,Y r.const]) [aH 3 1 1 ah r.aU]){r:cw}(h:rB n a change=aa r):cj G 271 [] [V.agg (gH a),V.fn c []] (V.agg [cH r.array,ms 0 1 2 az r.bB]) [E.aN bD 2 1 (r.bB.map az) []]:=by refine cA aQ func271 rfl λw X A e H=>ad e [.z (.b (ab)),.z (.nat 20)] (ad e [.z (.nat 21)] (al (ad e [aI az a.bB] (bd (bF e [.eC 21 1 22 81,.dq 22 bD 2] (cz h (λm y=>bj [(1,V.fn c []),(4,V.ref 20 0),(5,V.ref 21 0),(12,aG az a.bB),(13,Y (a.bB.length:Int)),(14,Y m.2)] [(20,E.cells [cH [],br]),(21,E.cells [cH a.array,ms 22 y 2 az m.1]),(22,E.aN bD 2 y (m.1.map az) [])] [20,21,22]) 1 (aM) ?_))))));rintro l ⟨o,B⟩ C h;refine U e (cU h (λD h=>ax (bC (an h λF p h=>ad e [aY az p,.z (.nat 23)] (bP h λi q s k h=>bJ e bI [.z (.dL [] [24] (V.agg [ms 0 1 1 ah i.aU,Y i.const]) [aH 3 1 1 ah i.aU]),.z (.lt 25 bD 2),.z (.rows (bL az (o++[(⟨[],i.const⟩:aF)]))),aw (d F _ q),aw (bG (aR bD 2)),aw (lZ az (⟨[],i.const⟩:aF) k),bQ 2 f' o,bQ 2 f' [(⟨[],i.const⟩:aF)]] (c6 e [.dq 24 bD 0,.cP 22 24 (az (⟨[],i.const⟩:aF)) (s.map az),.e6 21 1 (s.map az).length] (a5 (bG (i.aU.map ah).length) (bG bD) (hg az o (⟨[],i.const⟩:aF)) (mA az (ph:=(⟨[],i.const⟩:aF)) k rfl) (l2 az (⟨[],i.const⟩:aF) k)) (bf e ⟨(s,wr (B+1)),(C+1),h,aM⟩)))))) λD h=>?_);cases h;exact bq (U e (bF e [.cL 22 0 [] [20,21]] cT))
theorem XM(G:cN): ∀(n:Nat) (e:Expr) (a:FuncId) (change:aF->Option aF) (d: ∀(F:aF) r,change F=aa r->cj G a [] [V.agg (cF F)] (V.agg [ms 0 1 1 ah r.aU,Y r.const]) [aH 3 1 1 ah r.aU]) {r:Expr} (h:ko n e change=aa r),cj G 272 [] [V.agg (dz e),V.fn a []] (V.agg [Y r.kind,Y r.num,ms 0 1 1 ah r.index.aU,Y r.index.const,cH r.read.array,ms 1 1 2 az r.read.bB,ms 2 1 7 be r.bm]) [aH 3 1 1 ah r.index.aU,E.aN bD 2 1 (r.read.bB.map az) [],E.aN bD 4 1 (r.bm.map be) []]:=by
 intro n;induction n with
 |zero=>intro e a change d r h;rw[ko.eq_def] at h;cases h
 |succ n R=>
  intro e a change d r h;rw[ko.eq_def] at h;dsimp only at h;refine cA aQ func272 rfl λw X W i I=>ad i [.z (.b (ab)),.z (.nat 20)] (ad i [.z (.nat 21)] (bW h (λl=>bj [(1,V.fn a []),(2,V.aS (bx e)),(4,V.ref 20 0),(5,V.ref 21 0)] [(20,E.cells [Y 0,Y 0,br,Y 0,cH [],br,br]),(21,E.cells [Y e.kind,Y e.num,ms 22 1 1 ah l.1,Y l.2.1,cH l.2.2.1,ms 23 1 2 az l.2.2.2,br]),(22,aH 3 1 1 ah l.1),(23,E.aN bD 2 1 (l.2.2.2.map az) [])] [20,21,22,23]) (λM h=>?_) ?_))
  ·refine U i (bd (U i (aC h (λf h=>?_) λf h=>?_)))
   ·obtain⟨q,B,h⟩:=c' h;exact aE i [.z (.dL [] [22] (V.agg [ms 0 1 1 ah q.aU,Y q.const]) [aH 3 1 1 ah q.aU]),aw (d e.index _ B)] ⟨(q.aU,q.const,[],[]),h,S.le.trans (yK i [.eC 21 5 23 81,.dq 23 bD 2]) (aM)⟩
   refine U i (aC h (λg h=>?_) λg h=>ax ⟨([],0,[],[]),h,S.le.trans (yK i [.eC 21 2 22 3,.eC 21 5 23 81,.dq 23 bD 2]) (aM)⟩);obtain⟨H,C,h⟩:=c' h;exact aE i [bg [] [23] (LH G n e.read a change d C)] ⟨([],0,H.array,H.bB),h,S.le.trans (yK i [.eC 21 2 22 3]) (aM)⟩
  rintro⟨K,j,t,L⟩ h;refine al (ad i [aI be e.bm] (bd (bF i [.eC 21 6 24 84,.dq 24 bD 4] (cz h (λl Q=>bj [(1,V.fn a []),(4,V.ref 20 0),(5,V.ref 21 0),(30,aG be e.bm),(31,Y (e.bm.length:Int)),(32,Y l.2)] [(20,E.cells [Y 0,Y 0,br,Y 0,cH [],br,br]),(21,E.cells [Y e.kind,Y e.num,ms 22 1 1 ah K,Y j,cH t,ms 23 1 2 az L,ms 24 Q 7 be l.1]),(22,aH 3 1 1 ah K),(23,E.aN bD 2 1 (L.map az) []),(24,E.aN bD 4 Q (l.1.map be) [])] [20,21,22,23,24]) 1 (aM) ?_))));rintro s ⟨m,u⟩ D h;refine U i (cU h (λv h=>?_) λv h=>?_)
  ·refine ax (bC ?_);obtain⟨o,x,h⟩:=c' h;refine ad i [.z (.row (bx o)),.z (.nat 25),aw (fI be x (dh o))] ?_;obtain⟨c,A,p,k,h⟩:=ij h;exact bJ i bI [bg [] [26,27,28] (R o a change d A),.z (.lt 29 bD 4),.z (.rows (bL be (m++[(jD 0 c)]))),aw (bG (aR bD 4)),aw (lZ be (jD 0 c) k),bQ 7 kl m,bQ 7 kl [(jD 0 c)]] (c6 i [.dq 26 bD 0,.cP 24 26 (bx (jD 0 c)) (bL be (m++[(jD 1 c)])),.cP 24 27 (bx (jD 1 c)) (bL be (m++[(jD 2 c)])),.cP 24 28 (bx (jD 2 c)) (p.map be),.e6 21 6 (p.map be).length] (eM (bG (c.index.aU.map ah).length) (a12 (bG bD) (hg be m (jD 0 c)) (nF be m (ph:=(jD 0 c)) (y:=(jD 1 c)) rfl) (bG (c.read.bB.map az).length) (bG bD) (hg be m (jD 1 c)) (nF be m (ph:=(jD 1 c)) (y:=(jD 2 c)) rfl) (bG (c.bm.map be).length) (bG bD) (hg be m (jD 2 c)) (mA be (ph:=(jD 2 c)) k (dh c).symm) (l2 be (jD 0 c) k))) (bf i ⟨(p,wr (u+1)),(D+1),h,aM⟩))
  cases h;exact bq (U i (bF i [.cL 22 0 [] [20,21]] (bF i [.cL 23 1 [] [20,21]] (bF i [.cL 24 2 [] [20,21]] cT))))
theorem Yd(G:cN)(n:Nat)(s:Stmt)(a:FuncId)(change:aF->Option aF)(c: ∀(k:aF) r,change k=aa r->cj G a [] [V.agg (cF k)] (V.agg [ms 0 1 1 ah r.aU,Y r.const]) [aH 3 1 1 ah r.aU]){r:Stmt}(h:o6 n s change=aa r):cj G 209 [] [V.agg (fL s),V.fn a []] (V.agg [cH r.write.array,ms 0 1 2 az r.write.bB,Y r.value.kind,Y r.value.num,ms 1 1 1 ah r.value.index.aU,Y r.value.index.const,cH r.value.read.array,ms 2 1 2 az r.value.read.bB,ms 3 1 7 be r.value.bm]) [E.aN bD 2 1 (r.write.bB.map az) [],aH 3 1 1 ah r.value.index.aU,E.aN bD 2 1 (r.value.read.bB.map az) [],E.aN bD 4 1 (r.value.bm.map be) []]:=by refine cA aQ func209 rfl λw X l d m=>ad d [.z (.b (ab)),.z (.nat 20)] (al (bP h λo e p i h=>?_));cases h;exact bJ d bI [bg [] [21] (LH G n s.write a change c e),bg [] [22,23,24] (XM G n s.value a change c i)] (bF d [.cL 21 0 [] [20]] (bF d [.cL 22 1 [] [20]] (bF d [.cL 23 2 [] [20]] (bF d [.cL 24 3 [] [20]] cT))))
theorem Ye{s}{r}(h:wY n s=aa r):cj G 128 [] [V.agg (fL s)] (V.agg [cH r.write.array,ms 0 1 2 az r.write.bB,Y r.value.kind,Y r.value.num,ms 1 1 1 ah r.value.index.aU,Y r.value.index.const,cH r.value.read.array,ms 2 1 2 az r.value.read.bB,ms 3 1 7 be r.value.bm]) [E.aN bD 2 1 (r.write.bB.map az) [],aH 3 1 1 ah r.value.index.aU,E.aN bD 2 1 (r.value.read.bB.map az) [],E.aN bD 4 1 (r.value.bm.map be) []]:=cA aQ func128 rfl λw X e a i=>ad a [.z (.b (ab)),.z (.nat 20)] (an h λk c h=>aq h▸ad a [bg [] [21,22,23,24] (Yd G n s 139 (λd=>d8 n d) (λd r h=>v' G n d h) c)] (bF a [.cL 21 0 [] [20]] (bF a [.cL 22 1 [] [20]] (bF a [.cL 23 2 [] [20]] (bF a [.cL 24 3 [] [20]] cT)))))
theorem Yf{p}{r}(h:qa n p=aa r):cj G 62 [] [V.agg (kC p)] (V.agg [ms 0 1 2 av r.nest,ms 1 1 9 aA r.body]) [E.aN bD 3 1 (r.nest.map av) [],E.aN bD 5 1 (r.body.map aA) []]:=by refine cA aQ func62 rfl λw X A c F=>ad c [.z (.b (ab)),.z (.nat 20)] (an h λs k h=>ad c [bg [] [21] (Yi G k),.z (.nat 22)] (al (ad c [aI aA p.body] (bd (bF c [.eC 22 1 23 86,.dq 23 bD 5] (cz h (λl x=>bj [(2,V.ref 20 0),(3,V.ref 22 0),(11,aG aA p.body),(12,Y (p.body.length:Int)),(13,Y l.2)] [(20,E.cells [br,br]),(21,E.aN bD 3 1 (s.map av) []),(22,E.cells [ms 21 1 2 av s,ms 23 x 9 aA l.1]),(23,E.aN bD 5 x (l.1.map aA) [])] [20,21,22,23]) 1 (aM) ?_))))));rintro i ⟨d,B⟩ C h;exact U c (cU h (λD h=>ax (bC (an h λH m h=>ad c [aY aA m,.z (.nat 24)] (bP h λa o q e h=>bJ c bI [bg [] [25,26,27,28] (Ye G o),.z (.lt 29 bD 5),.z (.rows (bL aA (d++[(hW 0 a)]))),aw (bG (aR bD 5)),aw (lZ aA (hW 0 a) e),bQ 9 gx d,bQ 9 gx [(hW 0 a)]] (c6 c [.cP 23 25 (aA (hW 0 a)) (bL aA (d++[(hW 1 a)])),.dq 26 bD 0,.cP 23 26 (aA (hW 1 a)) (bL aA (d++[(hW 2 a)])),.cP 23 27 (aA (hW 2 a)) (bL aA (d++[(hW 3 a)])),.cP 23 28 (aA (hW 3 a)) (q.map aA),.e6 22 1 (q.map aA).length] (eM (bG (a.write.bB.map az).length) (eM (bG bD) (eM (hg aA d (hW 0 a)) (eM (nF aA d (ph:=(hW 0 a)) (y:=(hW 1 a)) rfl) (eM (bG (a.value.index.aU.map ah).length) (a12 (bG bD) (hg aA d (hW 1 a)) (nF aA d (ph:=(hW 1 a)) (y:=(hW 2 a)) rfl) (bG (a.value.read.bB.map az).length) (bG bD) (hg aA d (hW 2 a)) (nF aA d (ph:=(hW 2 a)) (y:=(hW 3 a)) rfl) (bG (a.value.bm.map be).length) (bG bD) (hg aA d (hW 3 a)) (mA aA (ph:=(hW 3 a)) e rfl) (l2 aA (hW 0 a) e))))))) (bf c ⟨(q,wr (B+1)),(C+1),h,aM⟩)))))) λD h=>aq h▸bq (U c (bF c [.cL 21 0 [] [20,22]] (bF c [.cL 23 1 [] [20,22]] cT))))
theorem Wf{p}{r}(h:d0 n p=aa r):cj G 24 [] [V.agg (b9 p)] (V.agg [ms 0 1 2 a' r.bc,ms 1 1 2 ar r.parts]) [E.aN bD 1 1 (r.bc.map a') [],E.aN bD 6 1 (r.parts.map ar) []]:=by refine cA aQ func24 rfl λw X L a t=>ad a [.z (.b (ab)),.z (.nat 20)] (ad a [.z (.nat 21)] (al (ad a [aI a' p.bc] (bd (bF a [.eC 21 0 22 71,.dq 22 bD 1] (cz h (λi o=>bj [(1,V.aS (eh p)),(2,V.ref 20 0),(3,V.ref 21 0),(9,aG a' p.bc),(10,Y (p.bc.length:Int)),(11,Y i.2)] [(20,E.cells [br,br]),(21,E.cells [ms 22 o 2 a' i.1,br]),(22,E.aN bD 1 o (i.1.map a') [])] [20,21,22]) 1 (aM) ?_))))));rintro B ⟨q,Q⟩ C h;refine U a (cU h (λR h=>ax (bC (an h λe D h=>ad a [aY a' D,.z (.nat 23)] (bP h λW F H k h=>bJ a bI [bg [] [24] (G.clone e.b7 F),.z (.lt 25 bD 1),.z (.rows (bL a' (q++[(⟨e.name,[]⟩:ch)]))),aw (bG (aR bD 1)),aw (lZ a' (⟨e.name,[]⟩:ch) k),bQ 2 o' q,bQ 2 o' [(⟨e.name,[]⟩:ch)]] (c6 a [.dq 24 bD 0,.cP 22 24 (a' (⟨e.name,[]⟩:ch)) (H.map a'),.e6 21 0 (H.map a').length] (a5 (bG (W.map ah).length) (bG bD) (hg a' q (⟨e.name,[]⟩:ch)) (mA a' (ph:=(⟨e.name,[]⟩:ch)) k rfl) (l2 a' (⟨e.name,[]⟩:ch) k)) (bf a ⟨(H,wr (Q+1)),(C+1),h,aM⟩)))))) λR h=>bq (al (ad a [aI ar p.parts] (bd (bF a [.eC 21 1 23 76,.dq 23 bD 6] (cz h (λi o=>bj [(2,V.ref 20 0),(3,V.ref 21 0),(28,aG ar p.parts),(29,Y (p.parts.length:Int)),(30,Y i.2)] [(20,E.cells [br,br]),(21,E.cells [ms 22 C 2 a' q,ms 23 o 2 ar i.1]),(22,E.aN bD 1 C (q.map a') []),(23,E.aN bD 6 o (i.1.map ar) [])] [20,21,22,23]) 1 (aM) ?_))))));rintro s ⟨m,f⟩ K h;exact U a (cU h (λg h=>ax (bC (an h λj x h=>ad a [aY ar x,.z (.nat 24)] (bP h λc A l d h=>bJ a bI [bg [] [25,26] (Yf G A),.z (.lt 27 bD 6),.z (.rows (bL ar (m++[(⟨[],[]⟩:Part)]))),aw (bG (aR bD 6)),aw (lZ ar (⟨[],[]⟩:Part) d),bQ 2 jy m,bQ 2 jy [(⟨[],[]⟩:Part)]] (c6 a [.cP 23 25 (ar (⟨[],[]⟩:Part)) (bL ar (m++[(⟨c.nest,[]⟩:Part)])),.cP 23 26 (ar (⟨c.nest,[]⟩:Part)) (l.map ar),.e6 21 1 (l.map ar).length] (a9 (bG (c.nest.map av).length) (bG bD) (hg ar m (⟨[],[]⟩:Part)) (nF ar m (ph:=(⟨[],[]⟩:Part)) (y:=(⟨c.nest,[]⟩:Part)) rfl) (bG (c.body.map aA).length) (bG bD) (hg ar m (⟨c.nest,[]⟩:Part)) (mA ar (ph:=(⟨c.nest,[]⟩:Part)) d rfl) (l2 ar (⟨[],[]⟩:Part) d)) (bf a ⟨(l,wr (f+1)),(K+1),h,aM⟩)))))) λg h=>aq h▸bq (U a (bF a [.cL 22 0 [] [20,21]] (bF a [.cL 23 1 [] [20,21]] cT))))
theorem UJ{p}{c}{r}(h:vC n p c=aa r):cj G 7 [] [V.agg (b9 p),Y c] (V.bX [V.agg [ms 0 1 2 a' r.1.bc,ms 1 1 2 ar r.1.parts],ms 2 1 4 b4 r.2.1,aT r.2.2]) [E.aN bD 1 1 (r.1.bc.map a') [],E.aN bD 6 1 (r.1.parts.map ar) [],aH 44 1 4 b4 r.2.1]:=by
 refine cA aQ func7 rfl λw X H a I=>ad a [.z (.b (ab)),.z (.nat 20)] (al (an h λM s h=>ad a [au (KP G s)] (aC h (λK h=>aq h▸U a (bF a [.grow 5 2 44] (bF a [.eC 20 0 900 71,.dq 900 bD 1,.eC 20 1 901 76,.dq 901 bD 6] (bF a [.cL 900 0 [] [20]] (bF a [.cL 901 1 [] [20]] cT))))) λK h=>ax (an h λN x h=>ad a [bg [] [21,22] (Ed G x),.z (.nat 23)] (U a ?_)))));obtain⟨L,y,h⟩:=l3 h;refine lI (γ:=Nat) (j:=L) (r:=r) (λd e=>bj [(4,V.ref 20 0),(7,V.ref 23 0),(8,ms 24 e 4 b4 d.2.2)] [(20,E.cells [br,br]),(23,E.cells [aG a' d.1,aG ar d.2.1]),(24,aH 44 e 4 b4 d.2.2)] [20,21,22,23,24]) ?_ ?_
 ·refine bd (bF a [.bN 21 [] [23]] (bF a [.bN 22 [] [23]] (bF a [.grow 8 24 44] (cz h (λd e=>bj [(1,Y c),(4,V.ref 20 0),(7,V.ref 23 0),(8,ms 24 e 4 b4 d.2.2)] [(20,E.cells [br,br]),(23,E.cells [aG a' d.1,aG ar d.2.1]),(24,aH 44 e 4 b4 d.2.2)] [20,21,22,23,24]) 1 (aM) ?_))));rintro o ⟨D,F,q⟩ A h;exact al (ad a [aI b4 q] (aC h (λQ h=>ax (bd (an h λR B h=>ad a [au (Zf G B),.z (.nat 25)] (al (U a (aC h (λW h=>bq ⟨(D,F,q),A,h,aM⟩) λW h=>ax (an h λi k h=>ad a [au (Ml G k)] (an h λC l h=>aE a [.z (.int 0),b2 (cy b4 l),bQ 4 gV q,bQ 4 gV [R.1]] ⟨(i.1.bc,i.1.parts,C),(A+1),h,aM⟩)))))))) λQ h=>bq ⟨(D,F,q),A,h,aM⟩))
 rintro⟨f,g,t⟩ u h;subst y;exact an h λv m h=>aq h▸ad a [bg [] [25,26] (Wf G m)] (bF a [.cL 25 0 [] [20]] (bF a [.cL 26 1 [] [20]] (bF a [.cL 24 2 [5] []] cT)))
theorem Dv(l:List Int):lk bD (aa 0) (.bE (l.map ah)):= .own _ _ (wT (λy j x h=>match j,h with
 |0,h=>by cases h;exact .fs _ rfl
 |_+1,h=>by cases h) l)
theorem yP(l:List aF):lk bD (aa 2) (.bE (l.map az)):= .own _ _ (wT (λy j x h=>match j,h with
 |0,h=>by cases h;exact Dv _
 |1,h=>by cases h;exact .fs _ rfl
 |_+2,h=>by cases h) l)
theorem ahC(l:List Loop):lk bD (aa 3) (.bE (l.map av)):= .own _ _ (wT (λy j x h=>match j,h with
 |0,h=>by cases h;exact yP _
 |1,h=>by cases h;exact yP _
 |_+2,h=>by cases h) l)
mutual
theorem Vt: ∀(e:Expr) (j:Nat) (x:T),(be e)[j]? =aa x->lk bD ((aR bD 4).ej j) x
 |⟨a0,aL,a2,a3,a4⟩,j,x,h=>by
  rw[be] at h
  match j,h with
  |0,h=>cases h;exact .fs _ rfl
  |1,h=>cases h;exact .fs _ rfl
  |2,h=>cases h;exact Dv _
  |3,h=>cases h;exact .fs _ rfl
  |4,h=>cases h;exact .fs _ rfl
  |5,h=>cases h;exact yP _
  |6,h=>cases h;exact .own _ _ (Js a4)
  |_+7,h=>cases h
theorem Js: ∀(l:List Expr) (i j:Nat) (a:List T) (x:T),(qI l)[i]? =aa a->a[j]? =aa x->lk bD ((aR bD 4).ej j) x
 | [],i,j,a,x,h,_=>by rw[qI] at h;simp at h
 |e::l,i,j,a,x,h,k=>by
  rw[qI] at h
  match i,h with
  |0,h=>cases h;exact Vt e j x k
  |i+1,h=>exact Js l i j a x h k
end
theorem ahD(l:List Expr):lk bD (aa 4) (.bE (l.map be)):=Gx l▸ .own _ _ (Js l)
theorem ahE(l:List Stmt):lk bD (aa 5) (.bE (l.map aA)):= .own _ _ (wT (λy j x h=>match j,h with
 |0,h=>by cases h;exact .fs _ rfl
 |1,h=>by cases h;exact yP _
 |2,h=>by cases h;exact .fs _ rfl
 |3,h=>by cases h;exact .fs _ rfl
 |4,h=>by cases h;exact Dv _
 |5,h=>by cases h;exact .fs _ rfl
 |6,h=>by cases h;exact .fs _ rfl
 |7,h=>by cases h;exact yP _
 |8,h=>by cases h;exact ahD _
 |_+9,h=>by cases h) l)
theorem OX(a:List ch)(b:List Part): ∀e,e∈[E.aN bD 1 1 (bL a' a) [],E.aN bD 6 1 (bL ar b) []]->I7 e:=λe c=>by
 rcases d'.1 c with rfl|c
 ·exact⟨rfl,wT (λy j x h=>match j,h with
   |0,h=>by cases h;exact .fs _ rfl
   |1,h=>by cases h;exact Dv _
   |_+2,h=>by cases h) a⟩
 obtain rfl:=lO.1 c;exact⟨rfl,wT (λy j x h=>match j,h with
  |0,h=>by cases h;exact ahC _
  |1,h=>by cases h;exact ahE _
  |_+2,h=>by cases h) b⟩
theorem ab5(a:List ch)(b:List Part)(l:List Step): ∀e,e∈[E.aN bD 1 1 (bL a' a) [],E.aN bD 6 1 (bL ar b) [],aH 44 1 4 b4 l]->I7 e:=λe c=>by
 rcases d'.1 c with rfl|c
 ·exact OX a b _ a7
 rcases d'.1 c with rfl|c
 ·exact OX a b _ a7
 obtain rfl:=lO.1 c;exact ab4 (λx y d=>by simp at d;rcases d with rfl|rfl|rfl|rfl<;>rfl) _
end
variable (G:cN){n:Nat}
theorem W'{a}(l:Nat){k}{r}(h:E' n a k=aa r):cj G 11 [aH 44 l 4 b4 a] [ms 0 l 4 b4 a,Y k] (Y r.1) [aH 44 l 4 b4 r.2]:=by refine cA aQ func11 rfl λw X D b Q=>U b (al (U b (bd (cq h (λy=>bj [(0,ms 0 l 4 b4 y.1),(1,Y y.2.1),(5,Y y.2.2)] [(0,aH 44 l 4 b4 y.1)] [0]) aM ?_))));rintro A ⟨F,R,W⟩ h;exact al (ad b [aI b4 F] (aC h (λH h=>ax (bC (bP h λf m B o h=>ad b [aw (bK b4 m),bw b4 m,.z (.rows (B.map b4)),.z (.len 0 (B.map b4).length),aw (str b4 o),aw (cQ b4 o)] (U b (bP h λg p C q h=>ad b [aw (bK b4 p),bw b4 p,.z (.rows (C.map b4)),.z (.len 0 (C.map b4).length),aw (str b4 q),aw (cQ b4 q)] (U b (bP h λK c s d h=>ad b [aw (bK b4 c),bw b4 c,.z (.rows (s.map b4)),.z (.len 0 (s.map b4).length),aw (str b4 d),aw (cQ b4 d)] (U b (bP h λL e x i h=>ad b [aw (bK b4 e),bw b4 e,.z (.rows (x.map b4)),.z (.len 0 (x.map b4).length),aw (str b4 i),aw (cQ b4 i)] (bf b (bf b (ay h)))))))))))) λH h=>aq h▸bq (U b cT)))
theorem Tk{p}{a}{r}(h:vC n p a=aa r):cj G 7 [E.aN bD 1 1 (p.bc.map a') [],E.aN bD 6 1 (p.parts.map ar) []] [V.agg [ms 0 1 2 a' p.bc,ms 1 1 2 ar p.parts],Y a] (V.bX [V.agg [ms 2 1 2 a' r.1.bc,ms 3 1 2 ar r.1.parts],ms 4 1 4 b4 r.2.1,aT r.2.2]) [E.aN bD 1 1 (p.bc.map a') [],E.aN bD 6 1 (p.parts.map ar) [],E.aN bD 1 1 (r.1.bc.map a') [],E.aN bD 6 1 (r.1.parts.map ar) [],aH 44 1 4 b4 r.2.1]:=
 afq (UJ G h) ⟨mD.mk ⟨.aN 0 bD 1 1 2 _ _ rfl rfl rfl,.aN 1 bD 6 1 2 _ _ rfl rfl rfl,trivial⟩,.t _,trivial⟩ rfl (ab5 _ _ _)
theorem amd{N}{c}{r}(h:Kz n N c=aa r):ba G 3 [V.agg (b9 N),Y c] (aT r):=bp aQ func3 rfl λw X a=>ad a [.z (.b (ab))] (U a (an h λhl S h=>ad a [au (W9 G S)] (al (U a (aC h (λc1 h=>aq h▸U a aB) λc1 h=>ax (bP h λj3 T p aje h=>ad a [bg [] [20,21] (Ec G T),.z (.at 9),.z (.en 20),.z (.at 9),.z (.bN 20 [26] []),.z (.at 9),.z (.en 21),.z (.at 9),.z (.bN 21 [26] []),bg [] [22] (UT G aje),.z (.nat 23)] (an h λP ajf h=>ad a [bg [] [24,25] (Ec G ajf),.z (.nat 26)] (an h λe ajg h=>ad a [bg [24,25] [27,28,29] (Tk G ajg),.z (.nat 30)] (al (bW h (λF=>bj [(1,Y c),(2,V.aS (eh N)),(6,V.ref 23 0),(7,ms 22 1 4 b4 p.2.1),(8,aT p.2.2),(9,V.ref 26 0),(10,V.ref 30 0),(11,ms 29 1 4 b4 e.2.1),(12,aT e.2.2),(55,aT F)] [(22,aH 44 1 4 b4 p.2.1),(23,E.cells (b9 p.1)),(24,E.aN bD 1 1 (P.bc.map a') []),(25,E.aN bD 6 1 (P.parts.map ar) []),(26,E.cells [ms 24 1 2 a' P.bc,ms 25 1 2 ar P.parts]),(27,E.aN bD 1 1 (e.1.bc.map a') []),(28,E.aN bD 6 1 (e.1.parts.map ar) []),(29,aH 44 1 4 b4 e.2.1),(30,E.cells [ms 27 1 2 a' e.1.bc,ms 28 1 2 ar e.1.parts])] [20,21,22,23,24,25,26,27,28,29,30]) (λzf h=>an h λkG C h=>bh h (λx h=>an h λkH H h=>bh h (λc3 h=>aE a ([.z (.b (ab)),.z (.nat 27),.z (.nat 28),au (oU G C)]++aO 3 x++[.z (.b (ab)),au (wJ G H),aK x,aK x]++aO 4 c3) (ay h)) λc3 h=>aE a ([.z (.b (ab)),.z (.nat 27),.z (.nat 28),au (oU G C)]++aO 3 x++[.z (.b (ab)),au (wJ G H),aK x,aK x]++aV 4 c3) (ay h)) λx h=>aE a ([.z (.b (ab)),.z (.nat 27),.z (.nat 28),au (oU G C)]++aV 5 x++dY 4) (ay h)) λoA h=>aC h (λc4 h=>aq h▸U a aB) λc4 h=>ax (al (al (bP h λq K xj L h=>bJ a bI [bg [] [31,32] (Ec G K),.z (.b (ab)),.z (.nat 24),.z (.nat 25),.z (.nat 31),.z (.nat 32),au (oU G L)] (aC h (λc5 h=>aq h▸U a aB) λc5 h=>ax (U a (an h λFb Q h=>ad a [bg [24,25] [] (LC G Q)] (al (bW h (λF=>bj [(1,Y c),(2,V.aS (eh N)),(6,V.ref 23 0),(7,ms 22 1 4 b4 p.2.1),(8,aT p.2.2),(10,V.ref 30 0),(11,ms 29 1 4 b4 e.2.1),(82,aT F)] [(22,aH 44 1 4 b4 p.2.1),(23,E.cells (b9 p.1)),(27,E.aN bD 1 1 (e.1.bc.map a') []),(28,E.aN bD 6 1 (e.1.parts.map ar) []),(29,aH 44 1 4 b4 e.2.1),(30,E.cells [ms 27 1 2 a' e.1.bc,ms 28 1 2 ar e.1.parts]),(31,E.aN bD 1 1 (q.bc.map a') []),(32,E.aN bD 6 1 (q.parts.map ar) [])] [20,21,22,23,24,25,26,27,28,29,30,31,32]) (λajD h=>bh h (λk h=>an h λr8 l h=>bh h (λy h=>an h λr9 A h=>bh h (λiF h=>aE a (aO 3 k++[.z (.b (ab)),.z (.nat 27),.z (.nat 28),au (oU G l),aK k,aK k]++aO 3 y++[.z (.b (ab)),au (wJ G A),aK y,aK y]++aO 4 iF) (ay h)) λiF h=>aE a (aO 3 k++[.z (.b (ab)),.z (.nat 27),.z (.nat 28),au (oU G l),aK k,aK k]++aO 3 y++[.z (.b (ab)),au (wJ G A),aK y,aK y]++aV 4 iF) (ay h)) λy h=>aE a (aO 3 k++[.z (.b (ab)),.z (.nat 27),.z (.nat 28),au (oU G l),aK k,aK k]++aV 5 y++dY 4) (ay h)) λk h=>aE a (aV 5 k++dY 9) (ay h)) λuv h=>aC h (λc9 h=>aq h▸U a aB) λc9 h=>ax (U a (al (an h λi R h=>an h λamw aja h=>an h λamx ajb h=>aE a [bg [27,28] [] (LC G R)] (c6 a [.e6 30 0 (i.2.1.map a').length,.e6 30 1 (i.2.2.map ar).length] (a2 (k8 a' aja) (k8 ar ajb)) (bP h λs W py f h=>ad a [bg [29] [] (W' G 1 W),.z (.len 11 (s.2.map b4).length),aw (je b4 f)] (U a (an h λr' g h=>ad a [.z (.b (ab)),.z (.nat 27),.z (.nat 28),au (LB G g)] (al (U a (aC h (λag9 h=>aq h▸U a aB) λag9 h=>ax (an h λqA j h=>ad a [.z (.b (ab)),au (L3 G j)] (al (U a (aC h (λag' h=>aq h▸U a aB) λag' h=>ax (al (U a (aC h (λc12 h=>aq h▸U a aB) λc12 h=>ax (bP h λt u m v h=>ad a [bg [] [33,34] (Ec G u),bg [33,34] [35,36,37] (Tk G v),.z (.nat 38)] (al (bW h (λF=>bj [(10,V.ref 30 0),(11,ms 29 1 4 b4 s.2),(14,Y s.1),(124,aT F)] [(22,aH 44 1 4 b4 p.2.1),(23,E.cells (b9 p.1)),(27,E.aN bD 1 1 (i.2.1.map a') []),(28,E.aN bD 6 1 (i.2.2.map ar) []),(29,aH 44 1 4 b4 s.2),(30,E.cells [ms 27 1 2 a' i.2.1,ms 28 1 2 ar i.2.2]),(31,E.aN bD 1 1 (q.bc.map a') []),(32,E.aN bD 6 1 (q.parts.map ar) []),(33,E.aN bD 1 1 (t.bc.map a') []),(34,E.aN bD 6 1 (t.parts.map ar) []),(35,E.aN bD 1 1 (m.1.bc.map a') []),(36,E.aN bD 6 1 (m.1.parts.map ar) []),(37,aH 44 1 4 b4 m.2.1),(38,E.cells [ms 35 1 2 a' m.1.bc,ms 36 1 2 ar m.1.parts])] [20,21,22,23,24,25,26,27,28,29,30,31,32,33,34,35,36,37,38]) (λDN h=>an h λxm o h=>bh h (λd h=>an h λsa B h=>bh h (λD h=>aE a ([.z (.b (ab)),.z (.nat 35),.z (.nat 36),au (oU G o)]++aO 3 d++[.z (.b (ab)),au (wJ G B),aK d,aK d]++aO 4 D) (ay h)) λD h=>aE a ([.z (.b (ab)),.z (.nat 35),.z (.nat 36),au (oU G o)]++aO 3 d++[.z (.b (ab)),au (wJ G B),aK d,aK d]++aV 4 D) (ay h)) λd h=>aE a ([.z (.b (ab)),.z (.nat 35),.z (.nat 36),au (oU G o)]++aV 5 d++dY 4) (ay h)) λux h=>aC h (λahb h=>aq h▸U a aB) λahb h=>ax (U a (an h λxn I h=>ad a [.z (.b (ab)),.z (.nat 27),.z (.nat 28),au (LB G I)] (al (U a (aC h (λJx h=>aq h▸U a aB) λJx h=>ax (an h λFc M h=>ad a [.z (.b (ab)),au (L3 G M)] (al (U a (aC h (λahc h=>aq h▸U a aB) λahc h=>ax (al (U a (aC h (λahd h=>aq h▸U a aB) λahd h=>aq h▸ax (U a aB)))))))))))))))))))))))))))))))))))))))))))))))))))
end Go.Lift
