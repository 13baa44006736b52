/- Tools. -/
import Derived.Test.YtbgbodhagkdffaaGreatDoorSLiftSq
import Derived.Lib.SplitLaws
import Derived.Lib.IndexAny
import Derived.Lib.Join
import Derived.Lib.SlTrimSet
namespace Go.Lift
open Go
open Option renaming some -> Y, none -> al, bind -> ad
open Bool renaming true -> I, false -> ao
open Decidable renaming decide -> ak
open List renaming length -> U, map -> cb
section
theorem bt{n:Int}(h: -9223372036854775808<=n/\n<=9223372036854775807):wr n=n:=IntWalk.i64_in n O
def cG{k:Type}(o:Option k)(Q:k->Prop):Prop:= ∃r,o=Y r/\Q r
section
variable {α β R mx:Type}{Q:R->Prop}
theorem aJ{r:R}(h:Q r):cG (Y r) Q:=⟨r,rfl,h⟩
theorem anr{o:Option α}{f:α->Option R}(h:cG o λx=>cG (f x) Q):cG (ad o f) Q:=by obtain⟨x,rfl,r,a,c⟩:=h;exact⟨r,a,c⟩
theorem dh{o:Option α}{f:α->Option R}{P:α->Prop}(h:cG o P)(k: ∀x,P x->cG (f x) Q):cG (ad o f) Q:=by obtain⟨x,rfl,h⟩:=h;exact k x h
theorem ah{o:Option α}{f:α->Option R}{x:α}(h:o=Option.some x)(k:cG (f x) Q):cG (ad o f) Q:=by subst h;exact k
theorem cG.mono{o:Option R}{P:R->Prop}(h:cG o P)(k: ∀x,P x->Q x):cG o Q:=by obtain⟨x,rfl,h⟩:=h;exact⟨x,rfl,k x h⟩
theorem dM{c:Bool}{A B:Option R}(a:c=I->cG A Q)(d:c=ao->cG B Q):cG (bif c then A else B) Q:=by
 cases c with
 |true=>exact a rfl
 |false=>exact d rfl
variable {p:Prop}{k:Type}{l:List k}
theorem aS[Decidable p]{A B:Option R}(a:p->cG A Q)(c: ¬p->cG B Q):cG (bif decide p then A else B) Q:=
 dM (λh=>a (gu h)) λh=>c (of_decide_eq_false h)
theorem fu[Decidable p]{A B:Option R}(a: ¬p->cG A Q)(c:p->cG B Q):cG (bif !decide p then A else B) Q:=
 dM (λh=>a (by simpa using h)) λh=>c (by simpa using h)
theorem bU{a:mx->Option R}{t:(mx->Option R)->Option R}(P:mx->Prop)(c: ∀j,(∀z,P z->cG (j z) Q)->cG (t j) Q)(d: ∀z,P z->cG (a z) Q):cG (bl a t) Q:=c a d
theorem cK{a:(mx->Option R)->mx->Option R}(d:mx->Prop)(oT :mx->Nat)
  (h: ∀c x,d x->(∀y,d y-> oT y< oT x->cG (c y) Q)->cG (a c x) Q): ∀(n:Nat) (x:mx),d x-> oT x<n->cG (bH a n x) Q
 |0,_,_,e=>bu e (sd _)
 |n+1,x,i,e=>h _ x i λy k l=>cK d oT h n y k O
theorem bR{o:Option R}{r:R}(h:cG o λx=>x=r):o=Option.some r:=by obtain⟨x,rfl,rfl⟩:=h;rfl
theorem xm{o:Option R}{r:R}(h:o=Option.some r)(k:Q r):cG o Q:=⟨r,h,k⟩
end
variable {p:Prop}{k:Type}{l:List k}
theorem bF{i:Nat}{x:k}(h:l[i]? =Y x):aC l (i:Int)=Y x:=by unfold aC;rw[bk O,Int.toNat_natCast];exact h
theorem hE{i:Int}(c:0<=i)(h:i<U l): ∃x,aC l i=Y x/\l[i.toNat]? =Y x:=by
 have a:i.toNat<U l:=O
 exact⟨l[i.toNat],by unfold aC;rw[bk c,bO a],bO a⟩
theorem g'{a b:Int}(c:0<=a)(d:a<=b)(e:b<=U l):sub l a b=Y ((l.take b.toNat).drop a.toNat):=by unfold sub;rw[bk ⟨c,d,e⟩]
theorem dO{a b:List k}(h:U a+U b<=1000000000):app a b=Y (a++b):=by unfold app;rw[bk h]
theorem fA{a b:List UInt8}(h:(U a:Int)+U b<=9223372036854775807):cat a b=Y (a++b):=by unfold cat;rw[bk h]
def u9(b:UInt8):List (List UInt8)->List (List UInt8)
 | []=>[[b]]
 |h::t=>(b::h)::t
def hW(c:UInt8):List UInt8->List (List UInt8)
 | []=>[[]]
 |b::l=>if b=c then []::hW c l else u9 b (hW c l)
theorem Lp(c:UInt8): ∀l,hW c l≠[]
 | []=>by simp[hW]
 |b::l=>by
  unfold hW;split
  ·simp
  cases hW c l<;>simp[u9]
theorem abX{c b:UInt8}(h:b≠c)(k:Nat)(l:List UInt8):Lib.splitK [c] 0 k (b::l)=u9 b (Lib.splitK [c] 0 k l):=by
 have a:Lib.index (b::l) [c]=if Lib.index l [c]== -1 then-1 else Lib.index l [c]+1:=by
  conv=>lhs;unfold Lib.index
  rw[bh (by simp;exact λe=>h e.symm)]
 cases k with
 |zero=>rfl
 |succ k=>
  unfold Lib.splitK;rw[a];have m:=Lib.index_ge l [c];by_cases d:Lib.index l [c]= -1
  ·simp[d,u9]
  rw[bh (show¬(Lib.index l [c]== -1)=I by simpa using d),bh (show¬(Lib.index l [c]+1== -1)=I by simp;omega),bh (show¬(Lib.index l [c]== -1)=I by simpa using d)];obtain⟨i,a⟩: ∃i:Nat,Lib.index l [c]=i:=⟨(Lib.index l [c]).toNat,O⟩
  rw[a];have n:((i:Int)+1).toNat=i+1:=O
  rw[n];simp[u9]
theorem adG(c:UInt8)(k:Nat)(l:List UInt8):Lib.splitK [c] 0 (1+k) (c::l)=[]::Lib.splitK [c] 0 k l:=by
 have a:Lib.index (c::l) [c]=0:=by unfold Lib.index;simp
 rw[Nat.add_comm]
 conv=>lhs;unfold Lib.splitK
 rw[a];simp
theorem R8(c:UInt8): ∀l,Lib.split l [c]=hW c l
 | []=>by unfold Lib.split;rw[Lib.count_one];rfl
 |b::l=>by
  have a:=R8 c l;unfold Lib.split at a⊢;unfold hW;by_cases h:b=c
  ·subst h;rw[bk rfl,Lib.count_cons_eq,adG,a]
  rw[bh h,Lib.count_cons_ne _ _ _ h,abX h,a]
theorem zm{l:List UInt8}(c:UInt8)(h:U l<4294967281):ma l [c]=Y (hW c l):=by unfold ma;rw[bk ⟨h,aZ⟩,R8]
theorem w4{c:UInt8}: ∀{a:List UInt8} (b:List UInt8),c∉a->hW c (a++c::b)=a::hW c b
 | [],b,_=>by simp[hW]
 |x::a,b,h=>by have d:x≠c:=λe=>h (by simp[e]);rw[De,hW,bh d,w4 b λi=>h (eT _ i)];rfl
theorem Ax{c:UInt8}: ∀{a:List UInt8},c∉a->hW c a=[a]
 | [],_=>rfl
 |x::a,h=>by have d:x≠c:=λe=>h (by simp[e]);rw[hW,bh d,Ax λi=>h (eT _ i)];rfl
theorem TF(c:UInt8): ∀l,U (hW c l)<=U l+1
 | []=>by simp[hW]
 |b::l=>by
  have a:=TF c l
  have:=Lp c l;unfold hW;split
  ·simp;exact a
  cases d:hW c l with
  |nil=>exact bu d this
  |cons h t=>rw[d] at a;simp[u9] at a ⊢; omega
theorem E2{c:UInt8}: ∀{l:List UInt8} {x:List UInt8},x∈hW c l->c∉x/\(U x)<=U l
 | [],x,h=>by simp[hW] at h;subst h;simp
 |b::l,x,h=>by
  unfold hW at h;split at h
  ·rename_i k;rcases eN.1 h with rfl|h
   ·simp
   obtain⟨a,i⟩:=E2 h;exact⟨a,bV⟩
  rename_i k;have dc:=Lp c l;cases d:hW c l with
  |nil=>exact bu d dc
  |cons m t=>
   rw[d] at h;simp only[u9] at h;rcases eN.1 h with rfl|h
   ·obtain⟨a,i⟩:=E2 (c:=c) (l:=l) (x:=m) (by rw[d];simp);refine⟨λhm=>?_,by simp;exact i⟩;rcases eN.1 hm with e|hm
    ·exact k e.symm
    exact a hm
   obtain⟨a,i⟩:=E2 (c:=c) (l:=l) (x:=x) (by rw[d];simp[h]);exact⟨a,bV⟩
end
set_option linter.unusedVariables false
abbrev gS:=List (List UInt8)
abbrev dT:=List (List Int)
abbrev bq:=List UInt8
abbrev bo:=List Int
abbrev aL(α:Type):=Option α
structure e9 where
 b:bq
 p:Int
 deriving Inhabited
structure de where
 ed:bq
 cr:bo
 deriving Inhabited
abbrev bB(x:de):List T:=[T.str x.ed,T.bX (cb an x.cr)]
theorem i9(x:de):(bB x).length=2:=rfl
structure aR where
 bg:bo
 cv:Int
 deriving Inhabited
abbrev aK(x:aR):List T:=[T.bX (cb an x.bg),T.int .i64 x.cv]
theorem fV(x:aR):(aK x).length=2:=rfl
structure b4 where
 bD:List aR
 aO:List aR
 deriving Inhabited
abbrev aA(x:b4):List T:=[T.bX (cb aK x.bD),T.bX (cb aK x.aO)]
theorem f'(x:b4):(aA x).length=2:=rfl
structure dr where
 ew:bq
 b7:List aR
 deriving Inhabited
abbrev ga(x:dr):List T:=[T.str x.ew,T.bX (cb aK x.b7)]
theorem Iy(x:dr):(ga x).length=2:=rfl
structure bW where
 aU:Int
 cA:Int
 dp:aR
 dL:dr
 bS:List bW
instance:Inhabited bW:=⟨⟨0,0,(⟨[],0⟩:aR),(⟨[],[]⟩:dr),[]⟩⟩
mutual
def cO:bW->List T
 |⟨a0,aW,a2,a3,a4⟩=>[T.int .i64 a0,T.int .i64 aW,T.bX (cb an a2.bg),T.int .i64 a2.cv,T.str a3.ew,T.bX (cb aK a3.b7),T.bX (A7 a4)]
def A7:List bW->List (List T)
 | []=>[]
 |x::l=>cO x::A7 l
end
theorem Q6: ∀l:List bW,A7 l=cb cO l
 | []=>by simp[A7]
 |x::l=>by simp[A7,Q6 l]
abbrev eH(x:bW):List T:=[T.int .i64 x.aU,T.int .i64 x.cA,T.bX (cb an x.dp.bg),T.int .i64 x.dp.cv,T.str x.dL.ew,T.bX (cb aK x.dL.b7),T.bX (cb cO x.bS)]
theorem ij(x:bW):cO x=eH x:=by cases x;simp[cO,Q6]
theorem k4(x:bW):(cO x).length=7:=by rw[ij];rfl
theorem sp(x:bW):nS 7 1 (eH x)=cb cO [x]:=by rw[show cb cO [x]=[eH x] from by simp only[cb,ij]];rfl
theorem Lr(x y:bW):nS 7 2 (eH x++eH y)=cb cO [x,y]:=by rw[show cb cO [x,y]=[eH x,eH y] from by simp only[cb,ij]];rfl
structure cT where
 dI:dr
 cz:bW
 deriving Inhabited
abbrev bT(x:cT):List T:=[T.str x.dI.ew,T.bX (cb aK x.dI.b7),T.int .i64 x.cz.aU,T.int .i64 x.cz.cA,T.bX (cb an x.cz.dp.bg),T.int .i64 x.cz.dp.cv,T.str x.cz.dL.ew,T.bX (cb aK x.cz.dL.b7),T.bX (cb cO x.cz.bS)]
theorem hA(x:cT):(bT x).length=9:=rfl
structure cq where
 a6:List b4
 a':List cT
 deriving Inhabited
abbrev av(x:cq):List T:=[T.bX (cb aA x.a6),T.bX (cb bT x.a')]
theorem jr(x:cq):(av x).length=2:=rfl
structure bx where
 a7:List de
 aq:List cq
 deriving Inhabited
abbrev gm(x:bx):List T:=[T.bX (cb bB x.a7),T.bX (cb av x.aq)]
structure e7 where
 aU:Int
 cf:Int
 a:Int
 b:Int
 deriving Inhabited
abbrev iP(x:e7):List T:=[T.int .i64 x.aU,T.int .i64 x.cf,T.int .i64 x.a,T.int .i64 x.b]
theorem Ei(x:e7):(iP x).length=4:=rfl
structure dz where
 cf:Int
 stmt:Int
 dS:bo
 deriving Inhabited
abbrev dx(x:dz):List T:=[T.int .i64 x.cf,T.int .i64 x.stmt,T.bX (cb an x.dS)]
theorem Ej(x:dz):(dx x).length=3:=rfl
structure nk where
 reads:bo
 dI:Int
 deriving Inhabited
abbrev ev(x:nk):List T:=[T.bX (cb an x.reads),T.int .i64 x.dI]
theorem Q5(x:nk):(ev x).length=2:=rfl
structure hr where
 gi:Int
 gj:Int
 kinds:Int
 deriving Inhabited
abbrev d8(x:hr):List T:=[T.int .i64 x.gi,T.int .i64 x.gj,T.int .i64 x.kinds]
theorem Fa(x:hr):(d8 x).length=3:=rfl
structure pz where
 a6:List b4
 steps:Int
 out:dT
 deriving Inhabited
structure qk where
 program:bx
 list:List dz
 reads:dT
 kP:bo
 deriving Inhabited
abbrev fR(x:qk):List T:=[T.bX (cb bB x.program.a7),T.bX (cb av x.program.aq),T.bX (cb dx x.list),T.bX (cb (bK an) x.reads),T.bX (cb an x.kP)]
structure nj where
 p:bx
 text:bq
 collect:Bool
 deriving Inhabited
structure lo where
 s:bq
 bad:Bool
 deriving Inhabited
abbrev T0(x:lo):List T:=[T.str x.s,T.bool x.bad]
open dr renaming mk -> fC
open aR renaming mk -> du
open de renaming mk -> sv
open bW renaming mk -> fz
open e9 renaming mk -> gA
open b4 renaming mk -> dD
open cq renaming mk -> cV
open bx renaming mk -> dv
open lo renaming mk -> nh
open cT renaming mk -> kf
def pZ(s t:bq):aL (bq×bq×Bool):=if U s<4294967281 then Y (Lib.cut s t) else al
def Ha(s t:bq):aL Int:=if U s<4294967281 then Y (Lib.index s t) else al
def Hb(s:bq)(c:UInt8):aL Int:=Y (Lib.indexByte s c)
def Cs(s t:bq):aL Int:=if(U s<4294967281/\(U t)<4294967281)/\(∀x∈s,x.toNat<128)/\(∀x∈t,x.toNat<128) then Y (Lib.indexAny s t) else al
def Cu(s t:bq):aL bq:=if U t<4294967281/\(∀x∈t,x.toNat<128) then Y (Lib.trimLeftS s t) else al
def y5(s t:bq):aL bq:=if U s<=9223372036854775807 then Y (Lib.trimSuffix s t) else al
def Ct(l:gS)(t:bq):aL bq:=if U l<=100000/\(U (Lib.join l t))<=100000000 then Y (Lib.join l t) else al
def Ec(n:Nat)(a:bq):aL e9:=bl (fun(d:bq)=>Y (gA d 0)) λc=>cond (ak ((2000:Int)<U a)) (ad (sub a 0 2000) λe=>c e) (c a)
def iY(n:Nat)(a:e9)(c:Int):aL (Int×e9):=bl (λi=>cond i (Y (0,(gA a.b (wr (a.p+1))))) (cond (ak (wr ((wr (a.p+1))-1)<U a.b)) (ad (aC a.b (wr ((wr (a.p+1))-1))) λk=>ad (oG c) λm=>Y (Int.tmod (k.toNat:Int) c,(gA a.b (wr (a.p+1))))) (ad (oG (U a.b)) λo=>ad (aC a.b (Int.tmod (wr ((wr (a.p+1))-1)) (U a.b:Int))) λd=>ad (oG (U a.b)) λq=>ad (aC a.b (Int.tmod (wr ((wr ((wr ((wr (a.p+1))-1))*7))+3)) (U a.b:Int))) λe=>ad (oG (U a.b)) λr=>ad (oG c) λl=>Y (Int.tmod (bits BinOp.xor IntKind.i64 (wr ((wr ((wr ((wr ((d.toNat:Int)*131))+(wr ((e.toNat:Int)*1117))))+(wr ((wr ((wr (a.p+1))-1))*29))))+(wr ((wr (Int.tdiv (wr ((wr (a.p+1))-1)) (U a.b:Int)))*53)))) (wr (Int.tdiv (wr ((wr ((wr ((wr ((d.toNat:Int)*131))+(wr ((e.toNat:Int)*1117))))+(wr ((wr ((wr (a.p+1))-1))*29))))+(wr ((wr (Int.tdiv (wr ((wr (a.p+1))-1)) (U a.b:Int)))*53)))) 64))) c,(gA a.b (wr (a.p+1))))))) λh=>cond (ak (c<1)) (h I) (h (ak ((U a.b:Int)=0)))
def rR(n:Nat)(c:e9)(a:gS):aL (bq×e9):=ad (iY n c (U a)) λd=>ad (aC a d.1) λe=>Y (e,d.2)
def E4(n:Nat)(s:bq)(c:UInt8):aL gS:=bH (λq ((d,l,a):gS×Int×Int)=>cond (ak (a<=U s)) (bl (fun((e,h):gS×Int)=>q (e,h,wr (a+1))) (λm=>bl (λr=>cond r (ad (sub s l a) λi=>ad (app d [i]) λk=>m (k,wr (a+1))) (m (d,l))) λo=>cond (ak (a=U s)) (o I) (ad (aC s a) λw=>o (ak ((w.toNat:Int)=(c.toNat:Int)))))) (Y d)) n ([],0,0)
def JK(n:Nat)(s:bq):aL gS:=ad (E4 n s (32:UInt8)) λd=>bH (λi ((a,c):gS×Int)=>cond (ak (c<U d)) (bl (fun(k:gS)=>i (k,wr (c+1))) (λe=>ad (aC d c) λh=>cond (!decide (h=[])) (ad (app a [h]) λl=>e l) (e a))) (Y a)) n ([],0)
def KM(n:Nat)(s:bq):aL (Int×Bool):=bl (λl=>bl (fun(c:bq)=>bl (λy=>cond y (Y (0,ao)) (bH (λm ((d,a):Int×Int)=>cond (ak (a<U c)) (bl (λo=>cond o (Y (0,ao)) (ad (aC c a) λq=>m (wr ((wr (d*10))+((q-(48:UInt8)).toNat:Int)),wr (a+1)))) (λe=>ad (aC c a) λh=>cond (ak ((h.toNat:Int)<48)) (e I) (e (ak ((57:Int)<(h.toNat:Int)))))) (bl (fun(r:Int)=>Y (r,I)) λi=>cond l (i (wr (0-d))) (i d))) n (0,0))) λk=>cond (ak ((U c:Int)=0)) (k I) (cond (ak ((17:Int)<U c)) (k I) (ad (aC c 0) λz=>cond (ak ((z.toNat:Int)=48)) (cond (ak ((1:Int)<U c)) (k I) (k l)) (k ao)))) λw=>cond l (ad (sub s 1 (U s)) λA=>w A) (w s)) λx=>cond (ak ((0:Int)<U s)) (ad (aC s 0) λB=>x (ak ((B.toNat:Int)=45))) (x ao)
def RO(n:Nat)(a:gS):aL de:=bH (λr ((m,d,c):bq×bo×Int)=>bl (λw=>cond w (bl (fun((e,h):bq×bo)=>r (e,h,wr (c+1))) (λo=>cond (ak (c=1)) (ad (aC a 1) λx=>o (x,d)) (ad (aC a c) λi=>ad (KM n i) λk=>ad (app d [k.1]) λl=>o (m,l)))) (Y (sv m d))) λq=>cond (ak (c<U a)) (q (ak (c<=4))) (q ao)) n ([],[],1)
def Sy(n:Nat)(s:bq)(a:Int):aL Int:=bl (λe=>cond e (Y (-1)) (ad (aC s a) λh=>Y (wr ((h.toNat:Int)-105)))) λc=>cond (ak ((U s:Int)<=a)) (c I) (ad (aC s a) λd=>cond (ak ((d.toNat:Int)<105)) (c I) (c (ak ((108:Int)<(d.toNat:Int)))))
def JJ(n:Nat)(s:bq)(a:Int):aL (Int×Int):=bH (λi (c:Int)=>bl (λk=>cond k (i (wr (c+1))) (ad (sub s a c) λl=>ad (KM n l) λe=>cond (!e.2) (Y (1,a)) (Y (e.1,c)))) λd=>cond (ak (c<U s)) (cond (ak (c<wr (a+2))) (ad (aC s c) λh=>cond (ak ((48:Int)<=(h.toNat:Int))) (d (ak ((h.toNat:Int)<=57))) (d ao)) (d ao)) (d ao)) n a
def RQ(n:Nat)(a:aR)(s:bq)(c:Int):aL (aR×Int):=bl (fun(z:Int)=>bl (fun(o:Int)=>ad (JJ n s o) λd=>bl (fun(e:Int)=>ad (Sy n s e) λh=>ad (app [] a.bg) λi=>bl (λq=>cond q (ad (aC i h) λr=>ad (cW i h (wr (r+(wr (z*d.1))))) λw=>Y ((du w a.cv),wr (e+1))) (cond (ak (d.2=o)) (Y (a,(-1))) (Y ((du i (wr (a.cv+(wr (z*d.1))))),d.2)))) λk=>cond (ak ((0:Int)<=h)) (cond (ak (d.2<e)) (k I) (k (ak (d.2=o)))) (k ao)) λm=>bl (λx=>cond x (m (wr (d.2+1))) (m d.2)) λl=>cond (ak (o<d.2)) (cond (ak (d.2<U s)) (ad (aC s d.2) λy=>l (ak ((y.toNat:Int)=42))) (l ao)) (l ao)) λA=>bl (λG=>cond G (A (wr (c+1))) (A c)) λB=>ad (aC s c) λC=>cond (ak ((C.toNat:Int)=45)) (B I) (B (ak ((C.toNat:Int)=43)))) λF=>ad (aC s c) λH=>cond (ak ((H.toNat:Int)=45)) (F (-1)) (F 1)
def qP(n:Nat):aL aR:=Y (du [0,0,0,0] 0)
def uf:Nat->Int->aL bq
 |0,_=>al
 |n+1,a=>(cond (ak (a<(-9223372036854775807))) (Y [45,57,50,50,51,51,55,50,48,51,54,56,53,52,55,55,53,56,48,56]) (cond (ak (a<0)) (ad (uf n (wr (0-a))) λe=>ad (cat [45] e) λh=>Y h) (bH (λi ((c,d):Int×bq)=>cond (ak ((9:Int)<c)) (ad (cat [UInt8.ofInt (wr (48+(Int.tmod c 10)))] d) λk=>i (wr (Int.tdiv c 10),k)) (ad (cat [UInt8.ofInt (wr (48+c))] d) λl=>Y l)) n (a,[]))))
def KL(n:Nat)(a:Int)(name:bq):aL bq:=bl (fun((c,d):Int×bq)=>cond (ak (name=[])) (ad (uf n c) λi=>ad (cat d i) λk=>Y k) (cond (ak (c=1)) (ad (cat d name) λl=>Y l) (ad (uf n c) λm=>ad (cat d m) λo=>ad (cat o [42]) λq=>ad (cat q name) λe=>Y e))) λh=>cond (ak (a<0)) (h (wr (0-a),[45])) (h (a,[43]))
def EK(n:Nat)(a:aR):aL bq:=bH (λr ((h,d):bq×Int)=>cond (ak (d<U a.bg)) (bl (fun(w:bq)=>r (w,wr (d+1))) (λo=>ad (aC a.bg d) λq=>cond (!decide (q=0)) (ad (sub [105,106,107,108] d (wr (d+1))) λx=>ad (KL n q x) λy=>ad (cat h y) λz=>o z) (o h))) (bl (fun(c:bq)=>cond (ak (c=[])) (Y [48]) (ad (sub c 0 1) λi=>cond (ak (i=[43])) (ad (sub c 1 (U c)) λk=>Y k) (Y c))) λe=>cond (!decide (a.cv=0)) (ad (KL n a.cv []) λl=>ad (cat h l) λm=>e m) (e h))) n ([],0)
def tS(n:Nat)(a c:Int):aL Bool:=bl (λe=>Y e) λd=>cond (ak (wr (0-c)<=a)) (d (ak (a<=c))) (d ao)
def vV(n:Nat)(a:aR):aL Bool:=bH (λe (c:Int)=>cond (ak (c<U a.bg)) (ad (aC a.bg c) λh=>ad (tS n h 9) λi=>cond (!i) (Y ao) (e (wr (c+1)))) (bl (λk=>Y k) λd=>cond (ak ((U a.bg:Int)=4)) (ad (tS n a.cv 99) λl=>d l) (d ao))) n 0
def Pd(n:Nat)(a:aR):aL bq:=ad (vV n a) λc=>cond (!c) (Y []) (ad (EK n a) λd=>Y d)
def OM(n:Nat)(a:bq):aL (aR×Bool):=ad (qP n) λi=>cond (ak ((40:Int)<U a)) (Y ((du [] 0),ao)) (bH (λl ((c,d,e):bo×Int×Int)=>bl (λm=>cond m (ad (RQ n (du c d) a e) λh=>l (h.1.bg,h.1.cv,h.2)) (ad (Pd n (du c d)) λo=>cond (!decide (o=a)) (Y ((du [] 0),ao)) (Y ((du c d),I)))) λk=>cond (ak ((0:Int)<=e)) (k (ak (e<U a))) (k ao)) n (i.bg,i.cv,0))
def HN(n:Nat)(a:bq):aL (List aR):=ad (E4 n a (44:UInt8)) λe=>bH (λk ((h,c):(List aR)×Int)=>bl (λl=>cond l (ad (aC e c) λm=>ad (OM n m) λo=>ad (app h [o.1]) λd=>k (d,wr (c+1))) (Y h)) λi=>cond (ak (c<U e)) (i (ak (c<=2))) (i ao)) n ([],0)
def Sx(n:Nat)(a:bq):aL b4:=ad (JK n a) λc=>cond (!decide ((U c:Int)=3)) (Y (dD [] [])) (ad (aC c 1) λd=>ad (HN n d) λe=>ad (aC c 2) λh=>ad (HN n h) λi=>Y (dD e i))
def Kt(n:Nat)(s:bq)(c:Int)(a:UInt8):aL Int:=bH (λe (d:Int)=>cond (ak (d<U s)) (ad (aC s d) λh=>cond (ak ((h.toNat:Int)=(a.toNat:Int))) (Y d) (e (wr (d+1)))) (Y (-1))) n c
def t4(n:Nat)(s:bq)(a:Int):aL (dr×Int):=ad (Kt n s a (93:UInt8)) λc=>bl (λe=>cond e (Y ((fC [] []),(-1))) (ad (sub s a (wr (a+1))) λh=>ad (sub s (wr (a+2)) c) λi=>ad (HN n i) λk=>Y ((fC h k),wr (c+1)))) λd=>cond (ak (c<wr (a+2))) (d I) (ad (aC s (wr (a+1))) λl=>d (!decide ((l.toNat:Int)=91)))
def RP(n:Nat)(self:bq->Int->Int->aL (bW×Int))(s:bq)(c a:Int):aL (bW×Int):=ad (self s c a) λd=>bl (λm=>cond m (Y ((fz 0 0 (du [] 0) (fC [] []) []),(-1))) (bl (fun(o:Int)=>ad (self s (wr (d.2+1)) a) λe=>bl (λq=>cond q (Y ((fz 0 0 (du [] 0) (fC [] []) []),(-1))) (Y ((fz o 0 (du [] 0) (fC [] []) [d.1,e.1]),wr (e.2+1)))) λi=>cond (ak (e.2<0)) (i I) (i (ak ((U s:Int)<=e.2)))) λh=>ad (aC s d.2) λk=>cond (ak ((k.toNat:Int)=45)) (h 5) (cond (ak ((k.toNat:Int)=42)) (h 6) (h 4)))) λl=>cond (ak (d.2<0)) (l I) (l (ak ((U s:Int)<=d.2)))
def zp:Nat->bq->Int->Int->aL (bW×Int)
 |0,_,_,_=>al
 |n+1,s,a,c=>(bl (λo=>cond o (Y ((fz 0 0 (du [] 0) (fC [] []) []),(-1))) (ad (aC s a) λh=>cond (ak ((h.toNat:Int)=123)) (ad (Kt n s a (125:UInt8)) λi=>cond (ak (i<0)) (Y ((fz 0 0 (du [] 0) (fC [] []) []),(-1))) (ad (sub s (wr (a+1)) i) λq=>ad (OM n q) λr=>Y ((fz 2 0 r.1 (fC [] []) []),wr (i+1)))) (bl (λw=>cond w (ad (t4 n s a) λl=>Y ((fz 3 0 (du [] 0) l.1 []),l.2)) (cond (ak ((h.toNat:Int)=40)) (ad (RP n (zp n) s (wr (a+1)) (wr (c-1))) λe=>Y (e.1,e.2)) (ad (JJ n s a) λd=>cond (ak (d.2=a)) (Y ((fz 0 0 (du [] 0) (fC [] []) []),(-1))) (Y ((fz 1 d.1 (du [] 0) (fC [] []) []),d.2))))) λm=>cond (ak ((65:Int)<=(h.toNat:Int))) (m (ak ((h.toNat:Int)<=68))) (m ao)))) λk=>cond (ak (c<1)) (k I) (cond (ak (a<0)) (k I) (k (ak ((U s:Int)<=a)))))
def qL(n:Nat)(a:aR):aL Int:=bH (λh ((d,c):Int×Int)=>cond (ak (c<U a.bg)) (bl (fun(i:Int)=>h (i,wr (c+1))) (λe=>ad (aC a.bg c) λk=>cond (!decide (k=0)) (e (wr (c+1))) (e d))) (Y d)) n (0,0)
def Dm(n:Nat)(a:dr)(c:Int):aL Bool:=bH (λk (e:Int)=>cond (ak (e<U a.b7)) (bl (λl=>cond l (Y ao) (k (wr (e+1)))) (λh=>ad (aC a.b7 e) λi=>ad (vV n i) λm=>cond (!m) (h I) (ad (qL n i) λo=>h (ak (c<o))))) (bl (λq=>Y q) λd=>cond (ak ((U a.ew:Int)=1)) (cond (!Op.bytesLess a.ew [65]) (cond (Op.bytesLess a.ew [68]||a.ew==[68]) (cond (ak ((1:Int)<=U a.b7)) (d (ak ((U a.b7:Int)<=2))) (d ao)) (d ao)) (d ao)) (d ao))) n 0
def EG(n:Nat)(a:Int):aL Int:=bl (λe=>cond e (Y 0) (bl (λh=>cond h (Y 2) (Y (-1))) λc=>cond (ak (a=4)) (c (ak (a=4))) (cond (ak (a=5)) (c (ak (a=5))) (c (ak (a=6)))))) λd=>cond (ak (a=1)) (d (ak (a=1))) (cond (ak (a=2)) (d (ak (a=2))) (d (ak (a=3))))
def zK(n:Nat)(a:dr):aL Bool:=bl (λd=>Y d) λc=>cond (ak (a.ew=[])) (c (ak ((U a.b7:Int)=0))) (c ao)
def xf(n:Nat)(a:aR):aL Bool:=bl (λd=>Y d) λc=>cond (ak ((U a.bg:Int)=0)) (c (ak (a.cv=0))) (c ao)
def FQ(n:Nat)(e:bW)(a:Int):aL Bool:=cond (ak (e.aU=2)) (bl (λw=>Y w) (λh=>cond (ak (e.cA=0)) (ad (zK n e.dL) λx=>cond x (ad (vV n e.dp) λy=>cond y (ad (qL n e.dp) λz=>h (ak (z<=a))) (h ao)) (h ao)) (h ao))) (cond (ak (e.aU=3)) (bl (λA=>Y A) (λi=>cond (ak (e.cA=0)) (ad (xf n e.dp) λB=>cond B (ad (Dm n e.dL a) λC=>i C) (i ao)) (i ao))) (cond (ak (e.aU=1)) (bl (λk=>Y k) (λc=>cond (ak ((0:Int)<=e.cA)) (cond (ak (e.cA<=99)) (ad (xf n e.dp) λl=>cond l (ad (zK n e.dL) λm=>c m) (c ao)) (c ao)) (c ao))) (bl (λo=>Y o) λd=>cond (ak (e.cA=0)) (ad (xf n e.dp) λq=>cond q (ad (zK n e.dL) λr=>d r) (d ao)) (d ao))))
def ui:Nat->bW->Int->Int->aL Bool
 |0,_,_,_=>al
 |n+1,e,c,a=>(bl (λi=>cond i (Y ao) (bH (λk (d:Int)=>cond (ak (d<U e.bS)) (ad (aC e.bS d) λl=>ad (ui n l c (wr (a-1))) λm=>cond (!m) (Y ao) (k (wr (d+1)))) (Y I)) n 0)) λh=>cond (ak (a<1)) (h I) (ad (EG n e.aU) λo=>cond (!decide (o=U e.bS)) (h I) (ad (FQ n e c) λq=>h (!q))))
def wH:Nat->bW->Int->aL Int
 |0,_,_=>al
 |n+1,e,a=>(bH (λi ((d,c):Int×Int)=>bl (λk=>cond k (ad (aC e.bS c) λl=>ad (wH n l (wr (a-1))) λm=>i (wr (d+m),wr (c+1))) (Y d)) λh=>cond (ak (c<U e.bS)) (h (ak ((0:Int)<a))) (h ao)) n (1,0))
def wa(n:Nat)(s:cT)(a:Int):aL Bool:=bl (λd=>cond d (Y ao) (ad (wH n s.cz 5) λe=>Y (ak (e<=12)))) λc=>cond (ak (a<0)) (c I) (cond (ak ((4:Int)<a)) (c I) (ad (Dm n s.dI a) λh=>cond (!h) (c I) (ad (ui n s.cz a 5) λi=>c (!i))))
def H7(n:Nat)(a:List aR):aL bq:=bH (λh ((d,c):bq×Int)=>cond (ak (c<U a)) (bl (fun(i:bq)=>ad (aC a c) λk=>ad (EK n k) λl=>ad (cat i l) λm=>h (m,wr (c+1))) (λe=>cond (ak ((0:Int)<c)) (ad (cat d [44]) λo=>e o) (e d))) (Y d)) n ([],0)
def Hu(n:Nat)(a:dr):aL bq:=ad (cat a.ew [91]) λc=>ad (H7 n a.b7) λd=>ad (cat c d) λe=>ad (cat e [93]) λh=>Y h
def wJ:Nat->bW->aL bq
 |0,_=>al
 |n+1,e=>(cond (ak (e.aU=1)) (ad (uf n e.cA) λk=>Y k) (cond (ak (e.aU=2)) (ad (EK n e.dp) λl=>ad (cat [123] l) λm=>ad (cat m [125]) λo=>Y o) (cond (ak (e.aU=3)) (ad (Hu n e.dL) λq=>Y q) (ad (aC e.bS 0) λr=>ad (wJ n r) λw=>ad (cat [40] w) λx=>ad (sub [43,45,42] (wr (e.aU-4)) (wr ((wr (e.aU-4))+1))) λy=>ad (cat x y) λa=>ad (aC e.bS 1) λc=>ad (wJ n c) λd=>ad (cat a d) λh=>ad (cat h [41]) λi=>Y i))))
def Qf(n:Nat)(s:cT):aL bq:=ad (wa n s 4) λa=>cond (!a) (Y []) (ad (Hu n s.dI) λc=>ad (cat c [61]) λd=>ad (wJ n s.cz) λe=>ad (cat d e) λh=>Y h)
def Iw(n:Nat)(a:bq):aL (cT×Bool):=cond (ak ((U a:Int)<4)) (Y ((kf (fC [] []) (fz 0 0 (du [] 0) (fC [] []) [])),ao)) (ad (t4 n a 0) λc=>bl (λh=>cond h (Y ((kf (fC [] []) (fz 0 0 (du [] 0) (fC [] []) [])),ao)) (ad (zp n a (wr (c.2+1)) 5) λd=>ad (Qf n (kf c.1 d.1)) λi=>cond (!decide (i=a)) (Y ((kf (fC [] []) (fz 0 0 (du [] 0) (fC [] []) [])),ao)) (Y ((kf c.1 d.1),I)))) λe=>cond (ak (c.2<0)) (e I) (e (ak ((U a:Int)<=c.2))))
def Sv(n:Nat)(p:bx)(a:bq):aL bx:=ad (JK n a) λc=>bl (λx=>cond x (ad (RO n c) λy=>ad (app p.a7 [y]) λz=>Y (dv z p.aq)) (cond (ak (a=[112,97,114,116])) (ad (app p.aq [(cV [] [])]) λe=>Y (dv p.a7 e)) (bl (λA=>cond A (ad (aC p.aq (wr ((U p.aq:Int)-1))) λr=>ad (Sx n a) λh=>ad (app r.a6 [h]) λi=>ad (cW p.aq (wr ((U p.aq:Int)-1)) (cV i r.a')) λk=>Y (dv p.a7 k)) (cond (ak ((0:Int)<=wr ((U p.aq:Int)-1))) (ad (aC p.aq (wr ((U p.aq:Int)-1))) λd=>ad (Iw n a) λl=>ad (app d.a' [l.1]) λm=>ad (cW p.aq (wr ((U p.aq:Int)-1)) (cV d.a6 m)) λo=>Y (dv p.a7 o)) (Y p))) λq=>cond (ak ((0:Int)<=wr ((U p.aq:Int)-1))) (cond (ak ((0:Int)<U c)) (ad (aC c 0) λe=>q (ak (e=[102,111,114]))) (q ao)) (q ao)))) λw=>cond (ak ((0:Int)<U c)) (ad (aC c 0) λB=>w (ak (B=[97,114,114,97,121]))) (w ao)
def Sw(n:Nat)(a:List b4):aL bq:=bH (λk ((h,c):bq×Int)=>cond (ak (c<U a)) (ad (cat h [102,111,114,32]) λl=>ad (aC a c) λi=>ad (H7 n i.bD) λm=>ad (cat l m) λo=>ad (cat o [32]) λq=>ad (H7 n i.aO) λr=>ad (cat q r) λd=>ad (cat d [10]) λe=>k (e,wr (c+1))) (Y h)) n ([],0)
def DH(n:Nat)(a:List de):aL Bool:=bH (λm (e:Int)=>cond (ak (e<U a)) (ad (aC a e) λc=>bl (λo=>cond o (Y ao) (bH (λq (i:Int)=>cond (ak (i<U c.cr)) (bl (λk=>cond k (Y ao) (q (wr (i+1)))) (λl=>ad (aC c.cr i) λh=>cond (ak (h<1)) (l I) (l (ak ((6:Int)<h))))) (m (wr (e+1)))) n 0)) (λd=>cond (!decide ((U c.ed:Int)=1)) (d I) (cond (Op.bytesLess c.ed [65]) (d I) (cond (!Op.bytesLess c.ed [68]&& !c.ed==[68]) (d I) (cond (ak ((0:Int)<e)) (ad (aC a (wr (e-1))) λr=>cond (!Op.bytesLess r.ed c.ed) (d I) (cond (ak ((U c.cr:Int)<1)) (d I) (d (ak ((2:Int)<U c.cr))))) (cond (ak ((U c.cr:Int)<1)) (d I) (d (ak ((2:Int)<U c.cr))))))))) (Y (ak ((U a:Int)<=4)))) n 0
def qQ(n:Nat)(a:aR)(c:bo):aL Int:=bH (λi ((e,d):Int×Int)=>bl (λk=>cond k (ad (aC a.bg d) λl=>ad (aC c d) λm=>i (wr (e+(wr (l*m))),wr (d+1))) (Y e)) λh=>cond (ak (d<U c)) (h (ak (d<U a.bg))) (h ao)) n (a.cv,0)
def zR(n:Nat)(a:b4)(p:bo):aL (Int×Int):=ad (aC a.bD 0) λx=>ad (qQ n x p) λy=>ad (aC a.aO 0) λz=>ad (qQ n z p) λA=>bH (λB ((k,l):Int×Int)=>cond (ak (l<U a.bD)) (bl (fun(m:Int)=>B (m,wr (l+1))) (λw=>ad (aC a.bD l) λC=>ad (qQ n C p) λe=>cond (ak (k<e)) (w e) (w k))) (bH (λo ((c,d):Int×Int)=>cond (ak (d<U a.aO)) (bl (fun(q:Int)=>o (q,wr (d+1))) (λh=>ad (aC a.aO d) λr=>ad (qQ n r p) λi=>cond (ak (i<c)) (h i) (h c))) (Y (k,c))) n (A,1))) n (y,1)
def r5:Nat->dT->(List b4)->bo->aL dT
 |0,_,_,_=>al
 |n+1,out,nest,p=>(cond (ak ((U p:Int)=U nest)) (ad (app [] p) λm=>ad (app out [m]) λo=>Y o) (ad (aC nest (U p)) λq=>ad (zR n q p) λk=>bH (λr ((a,c):dT×Int)=>bl (λd=>cond d (ad (app [] p) λe=>ad (app e [c]) λh=>ad (r5 n a nest h) λi=>r (i,wr (c+1))) (Y a)) λl=>cond (ak (c<k.2)) (l (ak ((U a:Int)<=120))) (l ao)) n (out,k.1)))
def Al(n:Nat)(a:List aR)(c:Int):aL Bool:=bH (λk (d:Int)=>cond (ak (d<U a)) (bl (λl=>cond l (Y ao) (k (wr (d+1)))) (λe=>ad (aC a d) λh=>ad (vV n h) λm=>cond (!m) (e I) (ad (qL n h) λo=>e (ak (c<o))))) (bl (λq=>Y q) λi=>cond (ak ((1:Int)<=U a)) (i (ak ((U a:Int)<=2))) (i ao))) n 0
def Ix(n:Nat)(a:List b4):aL Bool:=bH (λi (c:Int)=>bl (λk=>cond k (bl (λl=>cond l (Y ao) (i (wr (c+1)))) (λd=>ad (aC a c) λe=>ad (Al n e.bD c) λm=>cond (!m) (d I) (ad (Al n e.aO c) λo=>d (!o)))) (Y (ak ((U a:Int)<=4)))) λh=>cond (ak (c<U a)) (h (ak ((U a:Int)<=4))) (h ao)) n 0
def ug:Nat->(List b4)->bo->Int->aL Int
 |0,_,_,_=>al
 |n+1,nest,p,a=>(cond (ak ((U p:Int)=U nest)) (Y 1) (ad (aC nest (U p)) λk=>ad (zR n k p) λh=>bH (λl ((c,d):Int×Int)=>bl (λm=>cond m (ad (app [] p) λo=>ad (app o [d]) λq=>ad (ug n nest q (wr (a-c))) λe=>l (wr (c+e),wr (d+1))) (Y c)) λi=>cond (ak (d<h.2)) (i (ak (c<=a))) (i ao)) n (1,h.1)))
def H'(n:Nat)(a:List b4):aL (dT×Bool):=bl (λe=>cond e (Y ([],ao)) (ad (r5 n [] a []) λc=>cond (ak ((120:Int)<U c)) (Y ([],ao)) (Y (c,I)))) λd=>ad (Ix n a) λh=>cond (!h) (d I) (ad (ug n a [] 1200) λi=>d (ak ((1200:Int)<i)))
def tg(n:Nat)(a:aR):aL aR:=cond (ak ((U a.bg:Int)=0)) (Y (du [] a.cv)) (ad (app [] a.bg) λc=>Y (du c a.cv))
def th(n:Nat)(a:dr):aL dr:=bH (λe ((d,c):(List aR)×Int)=>cond (ak (c<U a.b7)) (ad (aC a.b7 c) λh=>ad (tg n h) λi=>ad (app d [i]) λk=>e (k,wr (c+1))) (Y (fC a.ew d))) n ([],0)
def wI:Nat->(List dr)->bW->aL (List dr)
 |0,_,_=>al
 |n+1,out,e=>(bl (fun(k:(List dr))=>bH (λl ((h,a):(List dr)×Int)=>cond (ak (a<U e.bS)) (ad (aC e.bS a) λc=>ad (wI n h c) λd=>l (d,wr (a+1))) (Y h)) n (k,0)) λi=>cond (ak (e.aU=3)) (ad (th n e.dL) λm=>ad (app out [m]) λo=>i o) (i out))
def Aj(n:Nat)(a:de):aL Int:=bH (λe ((d,c):Int×Int)=>cond (ak (c<U a.cr)) (ad (aC a.cr c) λh=>e (wr (d*h),wr (c+1))) (Y d)) n (1,0)
def Ak(n:Nat)(c:List de)(a:dr)(d:bo):aL Int:=bH (λx ((r,l):Int×Int)=>cond (ak (l<U c)) (ad (aC c l) λh=>cond (!decide (h.ed=a.ew)) (ad (Aj n h) λy=>x (wr (r+y),wr (l+1))) (bH (λz ((w,i):Int×Int)=>cond (ak (i<U a.b7)) (cond (!decide ((U a.b7:Int)=U h.cr)) (Y (-1)) (ad (aC a.b7 i) λA=>ad (qQ n A d) λe=>bl (λm=>cond m (Y (-1)) (ad (aC h.cr i) λo=>z (wr ((wr (w*o))+e),wr (i+1)))) (λk=>cond (ak (e<0)) (k I) (ad (aC h.cr i) λq=>k (ak (q<=e)))))) (Y (wr (r+w)))) n (0,0))) (Y (-1))) n (0,0)
def zJ(n:Nat)(c:List de)(s:cT)(a:bo):aL (bo×Int×Bool):=ad (wI n [] s.cz) λe=>bH (λl ((h,d):bo×Int)=>cond (ak (d<U e)) (ad (aC e d) λm=>ad (Ak n c m a) λi=>cond (ak (i<0)) (Y ([],0,ao)) (ad (app h [i]) λo=>l (o,wr (d+1)))) (ad (Ak n c s.dI a) λk=>cond (ak (k<0)) (Y ([],0,ao)) (Y (h,k,I)))) n ([],0)
def Eb(n:Nat)(p:bo):aL Bool:=bH (λc (a:Int)=>cond (ak (a<U p)) (ad (aC p a) λd=>ad (tS n d 9999) λe=>cond (!e) (Y ao) (c (wr (a+1)))) (Y (ak ((U p:Int)<=4)))) n 0
def xe(n:Nat)(c:List de)(a:cq):aL (Int×Bool):=ad (H' n a.a6) λh=>bl (λw=>cond w (Y (0,ao)) (bH (λx (i:Int)=>cond (ak (i<U a.a')) (ad (aC a.a' i) λr=>ad (wa n r (U a.a6)) λy=>cond (!y) (Y (0,ao)) (bH (λz (k:Int)=>cond (ak (k<U h.1)) (ad (aC h.1 k) λd=>ad (zJ n c r d) λl=>bl (λm=>cond m (Y (0,ao)) (z (wr (k+1)))) (λe=>cond (!l.2.2) (e I) (ad (Eb n d) λo=>e (!o)))) (x (wr (i+1)))) n 0)) (Y (wr ((U h.1:Int)*(U a.a':Int)),I))) n 0)) λq=>cond (!h.2) (q I) (cond (ak ((U a.a':Int)<1)) (q I) (q (ak ((4:Int)<U a.a'))))
def nu(n:Nat)(p:bx):aL Bool:=bl (λh=>cond h (Y ao) (bH (λi ((c,a):Int×Int)=>cond (ak (a<U p.aq)) (ad (aC p.aq a) λk=>ad (xe n p.a7 k) λd=>cond (!d.2) (Y ao) (i (wr (c+d.1),wr (a+1)))) (Y (ak (c<=120)))) n (0,0))) λe=>ad (DH n p.a7) λl=>cond (!l) (e I) (e (ak ((4:Int)<U p.aq)))
def O5(n:Nat)(p:bx):aL bq:=ad (nu n p) λb=>cond (!b) (Y []) (bH (λf ((W,k):bq×Int)=>cond (ak (k<U p.a7)) (ad (cat W [97,114,114,97,121,32]) λg=>ad (aC p.a7 k) λl=>ad (cat g l.ed) λj=>bH (λm ((X,o):bq×Int)=>cond (ak (o<U l.cr)) (ad (cat X [32]) λq=>ad (aC l.cr o) λr=>ad (uf n r) λw=>ad (cat q w) λx=>m (x,wr (o+1))) (ad (cat X [10]) λy=>f (y,wr (k+1)))) n (j,0)) (bH (λz ((e,a):bq×Int)=>cond (ak (a<U p.aq)) (ad (cat e [112,97,114,116,10]) λA=>ad (aC p.aq a) λc=>ad (Sw n c.a6) λB=>ad (cat A B) λC=>bH (λF ((h,d):bq×Int)=>cond (ak (d<U c.a')) (ad (aC c.a' d) λi=>ad (Hu n i.dI) λG=>ad (cat h G) λH=>ad (cat H [61]) λK=>ad (wJ n i.cz) λL=>ad (cat K L) λQ=>ad (cat Q [10]) λR=>F (R,wr (d+1))) (z (h,wr (a+1)))) n (C,0)) (Y e)) n (W,0))) n ([112,114,111,103,114,97,109,10],0))
def vS(n:Nat)(a:bq):aL (bx×Bool):=ad (E4 n a (10:UInt8)) λc=>cond (ak ((42:Int)<U c)) (Y ((dv [] []),ao)) (bH (λm ((d,e,h):(List de)×(List cq)×Int)=>cond (ak (wr (h+1)<U c)) (ad (aC c h) λo=>ad (Sv n (dv d e) o) λk=>m (k.a7,k.aq,wr (h+1))) (bl (λi=>cond i (Y ((dv [] []),ao)) (Y ((dv d e),I))) λl=>cond (ak (a=[])) (l I) (ad (O5 n (dv d e)) λq=>l (!decide (q=a))))) n ([],[],1))
def Ai(n:Nat):aL (List de):=Y [(sv [65] [6]),(sv [66] [4,5]),(sv [67] [3])]
def kp(n:Nat)(a:aR)(x:Int)(b:aR)(y:Int):aL aR:=bH (λe ((d,c):bo×Int)=>cond (ak (c<4)) (ad (aC a.bg c) λh=>ad (aC b.bg c) λi=>ad (app d [wr ((wr (x*h))+(wr (y*i)))]) λk=>e (k,wr (c+1))) (Y (du d (wr ((wr (x*a.cv))+(wr (y*b.cv))))))) n ([],0)
def iJ(n:Nat)(a:Int):aL aR:=ad (qP n) λc=>Y (du c.bg a)
def oB(n:Nat)(v:Int):aL aR:=ad (qP n) λa=>ad (aC a.bg v) λd=>ad (cW a.bg v 1) λc=>Y (du c a.cv)
def hS(n:Nat)(c:e9)(a:bo):aL (Int×e9):=ad (iY n c (U a)) λd=>ad (aC a d.1) λe=>Y (e,d.2)
def EI(n:Nat)(r:e9)(c:Int):aL (b4×e9):=ad (hS n r [0,0,1,0,(-1)]) λt=>ad (iJ n t.1) λy=>ad (hS n t.2 [3,4,2,3,1]) λz=>ad (iJ n z.1) λA=>bl (fun((B,C,e,h,i,k):bq×Int×bo×Int×bo×Int)=>bl (fun((F,G,H,K):bq×Int×(List aR)×(List aR))=>Y ((dD H K),(gA F G))) λl=>ad (iY n (gA B C) 12) λa=>cond (ak (a.1=0)) (ad (hS n a.2 [3,2,4]) λm=>ad (iJ n m.1) λL=>ad (app [(du i k)] [L]) λQ=>l (m.2.b,m.2.p,[(du e h)],Q)) (cond (ak (a.1=1)) (ad (hS n a.2 [0,1]) λo=>ad (iJ n o.1) λR=>ad (app [(du e h)] [R]) λW=>l (o.2.b,o.2.p,W,[(du i k)])) (l (a.2.b,a.2.p,[(du e h)],[(du i k)])))) λX=>bl (fun((u,v,f):bq×Int×Bool)=>cond f (ad (iY n (gA u v) c) λq=>ad (iY n q.2 2) λd=>cond (ak (d.1=0)) (ad (oB n q.1) λw=>X (d.2.b,d.2.p,w.bg,w.cv,A.bg,A.cv)) (ad (oB n q.1) λg=>ad (iJ n 1) λj=>ad (kp n g 1 j 1) λx=>X (d.2.b,d.2.p,y.bg,y.cv,x.bg,x.cv))) (X (u,v,y.bg,y.cv,A.bg,A.cv))) λE=>cond (ak ((0:Int)<c)) (ad (iY n z.2 4) λs=>E (s.2.b,s.2.p,ak (s.1=0))) (E (z.2.b,z.2.p,ao))
def EH(n:Nat)(a:e9):aL ((List b4)×e9):=ad (hS n a [2,1,2,3]) λc=>bH (λl ((h,i,d,k):bq×Int×(List b4)×Int)=>cond (ak ((0:Int)<k)) (ad (EI n (gA h i) (U d:Int)) λe=>ad (app d [e.1]) λm=>l (e.2.b,e.2.p,m,wr (k-1))) (Y (d,(gA h i)))) n (c.2.b,c.2.p,[],c.1)
def xg(n:Nat)(h:e9)(a:Int):aL (dr×e9):=ad (rR n h [[65],[66],[65],[67]]) λx=>bl (fun(X:Int)=>bH (λf ((K,L,Q,R):bq×Int×(List aR)×Int)=>cond (ak (R<X)) (ad (hS n (gA K L) [0,1,0,2]) λc=>ad (iJ n c.1) λi=>bl (fun((y,z,A,B):bq×Int×bo×Int)=>ad (app Q [(du A B)]) λC=>f (y,z,C,wr (R+1))) (λk=>bl (fun((l,m,F):bq×Int×Bool)=>cond F (ad (iY n (gA l m) a) λo=>ad (oB n o.1) λG=>ad (hS n o.2 [1,1,1,2,(-1)]) λq=>ad (hS n q.2 [0,1,0,0,2]) λd=>ad (iJ n d.1) λH=>ad (kp n G q.1 H 1) λr=>k (d.2.b,d.2.p,r.bg,r.cv)) (k (l,m,i.bg,i.cv))) λw=>cond (ak ((0:Int)<a)) (ad (iY n c.2 5) λe=>w (e.2.b,e.2.p,ak ((0:Int)<e.1))) (w (c.2.b,c.2.p,ao)))) (Y ((fC x.1 Q),(gA K L)))) n (x.2.b,x.2.p,[],0)) λW=>cond (ak (x.1=[66])) (W 2) (W 1)
def An(n:Nat)(c:e9)(a:Int):aL (aR×e9):=ad (hS n c [0,1,(-1),2,0,5,(-9),99]) λe=>ad (iJ n e.1) λl=>bH (λq ((m,o,h,d):bq×Int×bo×Int)=>cond (ak (d<a)) (ad (hS n (gA m o) [0,1,0,(-1),2,0,9]) λi=>ad (aC h d) λr=>ad (cW h d i.1) λk=>q (i.2.b,i.2.p,k,wr (d+1))) (Y ((du h l.cv),(gA m o)))) n (e.2.b,e.2.p,l.bg,0)
def uj:Nat->e9->Int->Int->aL (bW×e9)
 |0,_,_,_=>al
 |n+1,d,a,c=>(bl (fun((x,y,F):bq×Int×Bool)=>cond F (ad (iY n (gA x y) 4) λi=>cond (ak (i.1=0)) (ad (hS n i.2 [1,2,0,99,3]) λz=>Y ((fz 1 z.1 (du [] 0) (fC [] []) []),z.2)) (cond (ak (i.1=1)) (ad (An n i.2 a) λA=>Y ((fz 2 0 A.1 (fC [] []) []),A.2)) (ad (xg n i.2 a) λB=>Y ((fz 3 0 (du [] 0) B.1 []),B.2)))) (ad (hS n (gA x y) [4,6,5,4]) λe=>bH (λq ((k,l,m,o):bq×Int×(List bW)×Int)=>cond (ak (o<2)) (ad (uj n (gA k l) a (wr (c-1))) λh=>ad (app m [h.1]) λr=>q (h.2.b,h.2.p,r,wr (o+1))) (Y ((fz e.1 0 (du [] 0) (fC [] []) m),(gA k l)))) n (e.2.b,e.2.p,[],0))) λC=>cond (ak (c<2)) (C (d.b,d.p,I)) (ad (iY n d 4) λw=>C (w.2.b,w.2.p,ak (w.1=0))))
def EF(n:Nat)(c:e9)(a:Int):aL (cT×e9):=ad (xg n c a) λe=>ad (hS n e.2 [2,3,1,2]) λh=>ad (uj n h.2 a h.1) λd=>ad (wa n (kf e.1 d.1) a) λi=>cond i (Y ((kf e.1 d.1),d.2)) (ad (qP n) λk=>Y ((kf (fC [65] [k]) (fz 1 1 (du [] 0) (fC [] []) [])),d.2))
def Kv(n:Nat)(a:bo):aL ((List b4)×Bool):=cond (ak ((4:Int)<U a)) (Y ([],ao)) (bH (λl ((h,c):(List b4)×Int)=>cond (ak (c<U a)) (bl (λm=>cond m (Y ([],ao)) (ad (qP n) λo=>ad (aC a c) λq=>ad (iJ n q) λd=>ad (app h [(dD [o] [d])]) λe=>l (e,wr (c+1)))) (λi=>ad (aC a c) λk=>cond (ak (k<0)) (i I) (i (ak ((99:Int)<k))))) (Y (h,I))) n ([],0))
def EE(n:Nat)(d:e9):aL (cq×e9):=bH (λj ((W,X,f):bq×Int×Int)=>cond (ak (f<4)) (ad (EH n (gA W X)) λg=>ad (hS n g.2 [1,2,1,3]) λr=>bH (λw ((x,y,e,c,h):bq×Int×(List b4)×(List cT)×Int)=>cond (ak ((0:Int)<h)) (bl (fun((z,A,B):bq×Int×(List cT))=>w (z,A,e,B,wr (h-1))) (λi=>bH (λC ((k,l,m):bq×Int×Int)=>cond (ak (m<5)) (ad (EF n (gA k l) (U e:Int)) λa=>ad (Ai n) λF=>ad (xe n F (cV e [a.1])) λG=>cond G.2 (ad (app c [a.1]) λH=>i (a.2.b,a.2.p,H)) (C (a.2.b,a.2.p,wr (m+1)))) (i (k,l,c))) n (x,y,0))) (ad (Ai n) λK=>ad (xe n K (cV e c)) λo=>bl (λL=>cond L (Y ((cV e c),(gA x y))) (j (x,y,wr (f+1)))) λq=>cond o.2 (q (ak (o.1<=40))) (q ao))) n (r.2.b,r.2.p,g.1,[],r.1)) (ad (Iw n [65,91,105,93,61,40,65,91,105,93,43,123,105,125,41]) λQ=>ad (Kv n [4]) λR=>Y ((cV R.1 [Q.1]),(gA W X)))) n (d.b,d.p,0)
def EU(n:Nat)(a:e9):aL (bx×e9):=ad (Ai n) λq=>ad (hS n a [1,2,1,3]) λd=>bH (λw ((e,h,c,r):bq×Int×(List cq)×Int)=>cond (ak ((0:Int)<r)) (ad (EE n (gA e h)) λi=>ad (app c [i.1]) λk=>w (i.2.b,i.2.p,k,wr (r-1))) (ad (nu n (dv q c)) λl=>cond l (Y ((dv q c),(gA e h))) (ad (Ai n) λm=>ad (sub c 0 1) λo=>Y ((dv m o),(gA e h))))) n (d.2.b,d.2.p,[],d.1)
def ES(n:Nat)(a:e9):aL (bx×e9):=ad (rR n a [[112,97,114,116,10,102,111,114,32,48,32,51,10,102,111,114,32,48,32,52,10,66,91,105,44,106,93,61,40,66,91,105,44,106,93,43,123,50,42,105,43,106,125,41,10],[112,97,114,116,10,102,111,114,32,48,32,51,10,102,111,114,32,48,32,52,10,66,91,105,44,106,43,49,93,61,40,66,91,105,44,106,93,43,49,41,10],[112,97,114,116,10,102,111,114,32,48,32,51,10,102,111,114,32,49,32,52,10,66,91,105,43,49,44,106,45,49,93,61,40,66,91,105,44,106,93,42,50,41,10],[112,97,114,116,10,102,111,114,32,48,32,51,10,102,111,114,32,49,32,53,10,66,91,105,43,49,44,106,93,61,40,66,91,105,44,106,45,49,93,43,66,91,105,44,106,93,41,10,65,91,105,93,61,123,106,125,10],[112,97,114,116,10,102,111,114,32,48,32,52,10,65,91,105,93,61,40,123,105,125,42,50,41,10,112,97,114,116,10,102,111,114,32,48,32,52,10,65,91,105,43,49,93,61,40,65,91,105,93,43,67,91,48,93,41,10],[112,97,114,116,10,102,111,114,32,48,32,53,10,65,91,105,93,61,40,65,91,105,93,43,51,41,10,66,91,48,44,105,93,61,65,91,105,93,10],[112,97,114,116,10,102,111,114,32,48,32,51,10,102,111,114,32,48,32,51,10,67,91,105,93,61,40,67,91,105,93,43,66,91,105,44,106,93,41,10,112,97,114,116,10,102,111,114,32,48,32,51,10,102,111,114,32,48,32,51,10,65,91,106,93,61,40,65,91,106,93,45,66,91,106,44,105,93,41,10],[112,97,114,116,10,102,111,114,32,48,32,52,10,102,111,114,32,48,32,105,43,49,10,66,91,105,44,106,93,61,40,65,91,106,93,42,67,91,48,93,41,10]]) λc=>ad (cat [112,114,111,103,114,97,109,10,97,114,114,97,121,32,65,32,54,10,97,114,114,97,121,32,66,32,52,32,53,10,97,114,114,97,121,32,67,32,51,10] c.1) λm=>ad (vS n m) λe=>bl (fun((h,i,o):bq×Int×Bool)=>cond o (Y (e.1,(gA h i))) (ad (EU n (gA h i)) λk=>Y (k.1,k.2))) λl=>cond e.2 (ad (iY n c.2 3) λd=>l (d.2.b,d.2.p,ak ((0:Int)<d.1))) (l (c.2.b,c.2.p,ao))
def Ee(n:Nat)(a:e9):aL (bx×e9):=ad (rR n a [[112,97,114,116,10,102,111,114,32,48,32,52,10,65,91,105,93,61,123,105,125,10,112,97,114,116,10,102,111,114,32,48,32,51,10,67,91,105,93,61,40,67,91,105,93,43,49,41,10,112,97,114,116,10,102,111,114,32,48,32,52,10,66,91,48,44,105,93,61,65,91,105,93,10],[112,97,114,116,10,102,111,114,32,48,32,52,10,65,91,105,93,61,123,50,42,105,125,10,112,97,114,116,10,102,111,114,32,48,32,53,10,65,91,105,93,61,51,10,112,97,114,116,10,67,91,48,93,61,65,91,49,93,10],[112,97,114,116,10,102,111,114,32,48,32,51,10,67,91,105,93,61,66,91,105,44,48,93,10,112,97,114,116,10,102,111,114,32,48,32,51,10,66,91,105,44,49,93,61,67,91,105,93,10]]) λc=>ad (cat [112,114,111,103,114,97,109,10,97,114,114,97,121,32,65,32,54,10,97,114,114,97,121,32,66,32,52,32,53,10,97,114,114,97,121,32,67,32,51,10] c.1) λm=>ad (vS n m) λe=>bl (fun((h,i,o):bq×Int×Bool)=>cond o (Y (e.1,(gA h i))) (ad (ES n (gA h i)) λk=>Y (k.1,k.2))) λl=>cond e.2 (ad (iY n c.2 2) λd=>l (d.2.b,d.2.p,ak (d.1=0))) (l (c.2.b,c.2.p,ao))
def CV(n:Nat)(a:Int):aL Int:=bl (λh=>cond h (Y 3) (bl (λi=>cond i (Y 2) (bl (λk=>cond k (Y 1) (Y 0)) λd=>cond (ak (a=6)) (d (ak (a=6))) (cond (ak (a=9)) (d (ak (a=9))) (d (ak (a=10)))))) λc=>cond (ak (a=1)) (c (ak (a=1))) (cond (ak (a=2)) (c (ak (a=2))) (cond (ak (a=7)) (c (ak (a=7))) (c (ak (a=8))))))) λe=>cond (ak (a=3)) (e (ak (a=3))) (cond (ak (a=4)) (e (ak (a=4))) (e (ak (a=5))))
def zL(n:Nat)(d:e9):aL (e7×e9):=ad (iY n d 11) λi=>ad (hS n i.2 [0,0,1,0]) λr=>ad (hS n r.2 [0,1,0,2]) λw=>ad (hS n w.2 [1,2,(-1),3]) λx=>ad (CV n (wr (1+i.1))) λk=>bl (fun(A:Int)=>bl (fun(B:Int)=>bl (fun(l:Int)=>bl (fun((m,o,q):bq×Int×Int)=>Y ((⟨wr (1+i.1),l,B,q⟩:e7),(gA m o))) λe=>ad (iY n x.2 30) λa=>cond (ak (a.1=0)) (ad (hS n a.2 [1,100,(-9223372036854775808)]) λc=>e (c.2.b,c.2.p,c.1)) (e (a.2.b,a.2.p,A))) λh=>cond (ak (k<1)) (h 0) (h r.1)) λy=>cond (ak (k<2)) (y 0) (y w.1)) λz=>cond (ak (k<3)) (z 0) (z x.1)
def p2(n:Nat)(p:bx)(a c:Int):aL Bool:=bl (λe=>Y e) λd=>ad (nu n p) λh=>cond h (cond (ak ((0:Int)<=a)) (cond (ak (a<U p.aq)) (cond (ak ((0:Int)<=c)) (ad (aC p.aq a) λi=>d (ak (c<U i.a6))) (d ao)) (d ao)) (d ao)) (d ao)
def xh(n:Nat)(a:List b4):aL (List b4):=bH (λA ((y,k):(List b4)×Int)=>cond (ak (k<U a)) (bH (λB ((z,l):(List aR)×Int)=>ad (aC a k) λi=>cond (ak (l<U i.bD)) (ad (aC i.bD l) λd=>ad (app [] d.bg) λm=>ad (app z [(du m d.cv)]) λo=>B (o,wr (l+1))) (bH (λq ((e,c):(List aR)×Int)=>cond (ak (c<U i.aO)) (ad (aC i.aO c) λh=>ad (app [] h.bg) λr=>ad (app e [(du r h.cv)]) λw=>q (w,wr (c+1))) (ad (app y [(dD z e)]) λx=>A (x,wr (k+1)))) n ([],0))) n ([],0)) (Y y)) n ([],0)
def uh:Nat->bW->aL bW
 |0,_=>al
 |n+1,e=>(ad (tg n e.dp) λd=>ad (th n e.dL) λh=>bH (λi ((c,a):(List bW)×Int)=>cond (ak (a<U e.bS)) (ad (aC e.bS a) λk=>ad (uh n k) λl=>ad (app c [l]) λm=>i (m,wr (a+1))) (Y (fz e.aU e.cA d h c))) n ([],0))
def wX(n:Nat)(s:cT):aL cT:=ad (th n s.dI) λa=>ad (uh n s.cz) λc=>Y (kf a c)
def wW(n:Nat)(p:bx):aL bx:=bH (λz ((w,e):(List de)×Int)=>cond (ak (e<U p.a7)) (ad (aC p.a7 e) λx=>ad (app [] x.cr) λA=>ad (app w [(sv x.ed A)]) λB=>z (B,wr (e+1))) (bH (λh ((y,i):(List cq)×Int)=>cond (ak (i<U p.aq)) (ad (aC p.aq i) λa=>ad (xh n a.a6) λk=>bH (λl ((d,c):(List cT)×Int)=>cond (ak (c<U a.a')) (ad (aC a.a' c) λm=>ad (wX n m) λo=>ad (app d [o]) λq=>l (q,wr (c+1))) (ad (app y [(cV k d)]) λr=>h (r,wr (i+1)))) n ([],0)) (Y (dv w y))) n ([],0))) n ([],0)
def lz(n:Nat)(p:bx)(a many:Int)(c:List cq):aL (bx×Bool):=ad (wW n p) λd=>ad (sub d.aq 0 a) λh=>ad (app [] h) λi=>ad (app i c) λk=>ad (sub d.aq (wr (a+many)) (U d.aq:Int)) λl=>ad (app k l) λe=>ad (nu n (dv d.a7 e)) λm=>cond (!m) (Y ((dv [] []),ao)) (ad (wW n (dv d.a7 e)) λo=>Y (o,I))
def KK(n:Nat)(a:aR)(v:Int):aL aR:=ad (tg n a) λc=>ad (aC a.bg (wr (v+1))) λe=>ad (aC c.bg v) λk=>ad (cW c.bg v e) λd=>ad (aC a.bg v) λh=>ad (aC d (wr (v+1))) λl=>ad (cW d (wr (v+1)) h) λi=>Y (du i c.cv)
def Ea(n:Nat)(a:aR)(v:Int)(b:aR):aL aR:=ad (app [] a.bg) λc=>ad (aC c v) λi=>ad (cW c v 0) λd=>ad (aC a.bg v) λe=>ad (kp n (du d a.cv) 1 b e) λh=>Y h
def lA(n:Nat)(a:aR)(d v:Int)(b:aR):aL aR:=cond (ak (d=0)) (ad (KK n a v) λo=>Y o) (cond (ak (d=1)) (ad (Ea n a v b) λq=>Y q) (bH (λr ((e,c):bo×Int)=>cond (ak (c<4)) (bl (fun(h:bo)=>r (h,wr (c+1))) (λi=>cond (ak (c<v)) (ad (aC a.bg c) λw=>ad (app e [w]) λx=>i x) (cond (ak (c=v)) (ad (app e [0]) λk=>i k) (ad (aC a.bg (wr (c-1))) λl=>ad (app e [l]) λm=>i m)))) (Y (du e a.cv))) n ([],0)))
def xb(n:Nat)(a:List aR)(c v:Int)(b:aR):aL (List aR):=bH (λh ((e,d):(List aR)×Int)=>cond (ak (d<U a)) (ad (aC a d) λi=>ad (lA n i c v b) λk=>ad (app e [k]) λl=>h (l,wr (d+1))) (Y e)) n ([],0)
def zj(n:Nat)(a:dr)(c v:Int)(b:aR):aL dr:=ad (xb n a.b7 c v b) λd=>Y (fC a.ew d)
def uk:Nat->bW->Int->Int->aR->aL bW
 |0,_,_,_,_=>al
 |n+1,e,a,v,b=>(bl (fun((w,x):bo×Int)=>bl (fun((y,z):bq×(List aR))=>bH (λd ((l,c):(List bW)×Int)=>cond (ak (c<U e.bS)) (ad (aC e.bS c) λh=>ad (uk n h a v b) λi=>ad (app l [i]) λk=>d (k,wr (c+1))) (Y (fz e.aU e.cA (du w x) (fC y z) l))) n ([],0)) λm=>cond (ak (e.aU=3)) (ad (zj n e.dL a v b) λo=>m (o.ew,o.b7)) (m ([],[]))) λq=>cond (ak (e.aU=2)) (ad (lA n e.dp a v b) λr=>q (r.bg,r.cv)) (q ([],0)))
def ET(n:Nat)(a:List cT)(c v:Int)(b:aR):aL (List cT):=bH (λi ((e,d):(List cT)×Int)=>cond (ak (d<U a)) (ad (aC a d) λh=>ad (zj n h.dI c v b) λk=>ad (uk n h.cz c v b) λl=>ad (app e [(kf k l)]) λm=>i (m,wr (d+1))) (Y e)) n ([],0)
def Ag(n:Nat)(x:b4)(a v:Int)(b:aR):aL b4:=ad (xb n x.bD a v b) λc=>ad (xb n x.aO a v b) λd=>Y (dD c d)
def wA(n:Nat)(x:cq)(a c v:Int)(b:aR):aL cq:=ad (sub x.a6 0 (wr (a+1))) λi=>ad (app [] i) λk=>ad (ET n x.a' c v b) λl=>bH (λm ((h,d):(List b4)×Int)=>cond (ak (d<U x.a6)) (ad (aC x.a6 d) λo=>ad (Ag n o c v b) λq=>ad (app h [q]) λe=>m (e,wr (d+1))) (Y (cV h l))) n (k,wr (a+1))
def Af(n:Nat)(x:cq)(a:Int)(c:aR):aL cq:=ad (oB n a) λA=>ad (kp n A 1 c (-1)) λB=>ad (wA n x a 1 a B) λi=>bH (λC ((z,k):(List aR)×Int)=>ad (aC x.a6 a) λh=>cond (ak (k<U h.bD)) (ad (aC h.bD k) λF=>ad (kp n F 1 c 1) λl=>ad (app z [l]) λm=>C (m,wr (k+1))) (bH (λo ((e,d):(List aR)×Int)=>cond (ak (d<U h.aO)) (ad (aC h.aO d) λq=>ad (kp n q 1 c 1) λr=>ad (app e [r]) λw=>o (w,wr (d+1))) (ad (aC i.a6 a) λG=>ad (cW i.a6 a (dD z e)) λy=>Y (cV y i.a'))) n ([],0))) n ([],0)
def OL(n:Nat)(x:de):aL de:=ad (app [] x.cr) λa=>Y (sv x.ed a)
def G3(n:Nat)(a:List de):aL (List de):=bH (λe ((d,c):(List de)×Int)=>cond (ak (c<U a)) (ad (aC a c) λh=>ad (OL n h) λi=>ad (app d [i]) λk=>e (k,wr (c+1))) (Y d)) n ([],0)
def Cn(n:Nat)(x:aR):aL aR:=ad (app [] x.bg) λa=>Y (du a x.cv)
def f9(n:Nat)(a:List aR):aL (List aR):=bH (λe ((d,c):(List aR)×Int)=>cond (ak (c<U a)) (ad (aC a c) λh=>ad (Cn n h) λi=>ad (app d [i]) λk=>e (k,wr (c+1))) (Y d)) n ([],0)
def H1(n:Nat)(x:b4):aL b4:=ad (f9 n x.bD) λa=>ad (f9 n x.aO) λc=>Y (dD a c)
def G'(n:Nat)(a:List b4):aL (List b4):=bH (λe ((d,c):(List b4)×Int)=>cond (ak (c<U a)) (ad (aC a c) λh=>ad (H1 n h) λi=>ad (app d [i]) λk=>e (k,wr (c+1))) (Y d)) n ([],0)
def Co(n:Nat)(x:dr):aL dr:=ad (f9 n x.b7) λa=>Y (fC x.ew a)
def N3(n:Nat)(self:bW->aL bW)(a:List bW):aL (List bW):=bH (λe ((d,c):(List bW)×Int)=>cond (ak (c<U a)) (ad (aC a c) λh=>ad (self h) λi=>ad (app d [i]) λk=>e (k,wr (c+1))) (Y d)) n ([],0)
def r4:Nat->bW->aL bW
 |0,_=>al
 |n+1,x=>(ad (Cn n x.dp) λa=>ad (Co n x.dL) λc=>ad (N3 n (r4 n) x.bS) λd=>Y (fz x.aU x.cA a c d))
def H8(n:Nat)(x:cT):aL cT:=ad (Co n x.dI) λa=>ad (r4 n x.cz) λc=>Y (kf a c)
def G8(n:Nat)(a:List cT):aL (List cT):=bH (λe ((d,c):(List cT)×Int)=>cond (ak (c<U a)) (ad (aC a c) λh=>ad (H8 n h) λi=>ad (app d [i]) λk=>e (k,wr (c+1))) (Y d)) n ([],0)
def H9(n:Nat)(x:cq):aL cq:=ad (G' n x.a6) λa=>ad (G8 n x.a') λc=>Y (cV a c)
def G9(n:Nat)(a:List cq):aL (List cq):=bH (λe ((d,c):(List cq)×Int)=>cond (ak (c<U a)) (ad (aC a c) λh=>ad (H9 n h) λi=>ad (app d [i]) λk=>e (k,wr (c+1))) (Y d)) n ([],0)
def mI(n:Nat)(x:bx):aL bx:=ad (G3 n x.a7) λa=>ad (G9 n x.aq) λc=>Y (dv a c)
def DK(n:Nat)(p:bx)(a c d:Int):aL (bx×Bool):=ad (mI n p) λh=>bl (λm=>cond m (Y ((dv [] []),ao)) (ad (oB n c) λo=>ad (qP n) λq=>ad (kp n o d q 0) λr=>ad (aC h.aq a) λi=>ad (Af n i (wr (c+1)) r) λk=>ad (lz n h a 1 [k]) λe=>Y (e.1,e.2))) λl=>ad (p2 n h a c) λw=>cond (!w) (l I) (ad (p2 n h a (wr (c+1))) λx=>cond (!x) (l I) (ad (tS n d 6) λy=>l (!y)))
def Iv(n:Nat)(p:bx)(a d c:Int):aL (bx×Bool):=ad (mI n p) λe=>bl (λk=>cond k (Y ((dv [] []),ao)) (ad (aC e.aq a) λl=>ad (iJ n c) λm=>ad (Af n l d m) λo=>ad (lz n e a 1 [o]) λh=>Y (h.1,h.2))) λi=>ad (p2 n e a d) λq=>cond (!q) (i I) (ad (tS n c 6) λr=>i (!r))
def EJ(n:Nat)(a:b4):aL Bool:=bH (λe (c:Int)=>cond (ak (c<U a.bD)) (ad (aC a.bD c) λh=>ad (qL n h) λi=>cond (ak ((0:Int)<i)) (Y ao) (e (wr (c+1)))) (bH (λk (d:Int)=>cond (ak (d<U a.aO)) (ad (aC a.aO d) λl=>ad (qL n l) λm=>cond (ak ((0:Int)<m)) (Y ao) (k (wr (d+1)))) (Y I)) n 0)) n 0
def zI(n:Nat)(x:b4):aL (Int×Int×Bool):=bl (λc=>cond c (Y (0,0,ao)) (ad (aC x.bD 0) λd=>ad (aC x.aO 0) λe=>Y (d.cv,e.cv,I))) λa=>cond (!decide ((U x.bD:Int)=1)) (a I) (cond (!decide ((U x.aO:Int)=1)) (a I) (ad (EJ n x) λh=>a (!h)))
def It(n:Nat)(p:bx)(d a c:Int):aL (bx×Bool):=ad (mI n p) λl=>bl (λR=>cond R (Y ((dv [] []),ao)) (ad (aC l.aq d) λL=>ad (aC L.a6 a) λW=>ad (zI n W) λh=>cond (!h.2.2) (Y ((dv [] []),ao)) (bl (fun(o:Int)=>ad (wA n L a 2 a (du [] 0)) λe=>ad (oB n a) λq=>ad (iJ n h.1) λr=>ad (kp n q c r 1) λi=>ad (iJ n h.1) λw=>ad (iJ n h.2.1) λx=>ad (iJ n c) λy=>ad (kp n i 1 y 1) λz=>ad (sub e.a6 0 a) λA=>ad (app [] A) λB=>ad (qP n) λC=>ad (iJ n o) λF=>ad (app B [(dD [C] [F]),(dD [w,i] [x,z])]) λG=>ad (sub e.a6 (wr (a+1)) (U e.a6:Int)) λH=>ad (app G H) λK=>ad (lz n l d 1 [(cV K e.a')]) λk=>Y (k.1,k.2)) λQ=>cond (ak (h.1<h.2.1)) (ad (oG c) λX=>Q (wr (Int.tdiv (wr ((wr ((wr (h.2.1-h.1))+c))-1)) c))) (Q 0)))) λm=>ad (p2 n l d a) λb=>cond (!b) (m I) (ad (aC l.aq d) λf=>cond (ak ((4:Int)<=U f.a6)) (m I) (cond (ak (c<1)) (m I) (m (ak ((6:Int)<c)))))
def zT(n:Nat)(p:bo)(q:bo):aL Bool:=bH (λh (a:Int)=>bl (λi=>cond i (ad (aC p a) λc=>ad (aC q a) λd=>cond (!decide (c=d)) (Y (ak (c<d))) (h (wr (a+1)))) (Y (ak ((U p:Int)<U q)))) λe=>cond (ak (a<U p)) (e (ak (a<U q))) (e ao)) n 0
def Am(n:Nat)(a:bo)(b:bo):aL Bool:=cond (!decide ((U a:Int)=U b)) (Y ao) (bH (λd (c:Int)=>cond (ak (c<U a)) (ad (aC a c) λe=>ad (aC b c) λh=>cond (!decide (e=h)) (Y ao) (d (wr (c+1)))) (Y I)) n 0)
def CG(n:Nat)(a b:aR):aL Bool:=bl (λd=>Y d) λc=>cond (ak (a.cv=b.cv)) (ad (Am n a.bg b.bg) λe=>c e) (c ao)
def CF(n:Nat)(a:List aR)(b:List aR):aL Bool:=cond (!decide ((U a:Int)=U b)) (Y ao) (bH (λd (c:Int)=>cond (ak (c<U a)) (ad (aC a c) λe=>ad (aC b c) λh=>ad (CG n e h) λi=>cond (!i) (Y ao) (d (wr (c+1)))) (Y I)) n 0)
def DL(n:Nat)(a:List b4)(b:List b4):aL Bool:=cond (!decide ((U a:Int)=U b)) (Y ao) (bH (λi (c:Int)=>cond (ak (c<U a)) (bl (λk=>cond k (Y ao) (i (wr (c+1)))) (λd=>ad (aC a c) λe=>ad (aC b c) λh=>ad (CF n e.bD h.bD) λl=>cond (!l) (d I) (ad (CF n e.aO h.aO) λm=>d (!m)))) (Y I)) n 0)
def rq(n:Nat)(p:bx):aL (List dz):=bH (λx ((o,d):(List dz)×Int)=>cond (ak (d<U p.aq)) (ad (aC p.aq d) λq=>ad (r5 n [] q.a6 []) λr=>bH (λe ((w,h):(List dz)×Int)=>cond (ak (h<U r)) (bH (λi ((c,a):(List dz)×Int)=>cond (ak (a<U q.a')) (ad (aC r h) λk=>ad (app [] k) λl=>ad (app c [(⟨d,a,l⟩:dz)]) λm=>i (m,wr (a+1))) (e (c,wr (h+1)))) n (w,0)) (x (w,wr (d+1)))) n (o,0)) (Y o)) n ([],0)
def xc(n:Nat)(p:bx):aL (List nk):=ad (rq n p) λe=>bH (λk ((h,a):(List nk)×Int)=>cond (ak (a<U e)) (ad (aC e a) λc=>ad (aC p.aq c.cf) λl=>ad (aC l.a' c.stmt) λm=>ad (zJ n p.a7 m c.dS) λi=>ad (app h [(⟨i.1,i.2.1⟩:nk)]) λd=>k (d,wr (a+1))) (Y h)) n ([],0)
def xt(n:Nat)(a:bo)(c:Int):aL Bool:=bH (λe (d:Int)=>cond (ak (d<U a)) (ad (aC a d) λh=>cond (ak (h=c)) (Y I) (e (wr (d+1)))) (Y ao)) n 0
def D9(n:Nat)(a b:nk):aL Int:=bl (fun(c:Int)=>bl (fun(d:Int)=>bl (fun(k:Int)=>Y k) λe=>cond (ak (a.dI=b.dI)) (e (wr (d+4))) (e d)) λh=>ad (xt n a.reads b.dI) λl=>cond l (h (wr (c+2))) (h c)) λi=>ad (xt n b.reads a.dI) λm=>cond m (i (wr (0+1))) (i 0)
def xd(n:Nat)(p:bx):aL (List hr):=ad (xc n p) λe=>bH (λr ((q,a):(List hr)×Int)=>cond (ak (a<U e)) (bH (λw ((i,h):(List hr)×Int)=>cond (ak (h<U e)) (bl (fun(k:(List hr))=>w (k,wr (h+1))) (λc=>ad (aC e a) λl=>ad (aC e h) λm=>ad (D9 n l m) λd=>cond (!decide (d=0)) (ad (app i [(⟨a,h,d⟩:hr)]) λo=>c o) (c i))) (r (i,wr (a+1)))) n (q,wr (a+1))) (Y q)) n ([],0)
def CX(n:Nat)(p:bx)(a:Int):aL (bx×Bool):=ad (mI n p) λc=>bl (λC=>cond C (Y ((dv [] []),ao)) (ad (rq n c) λA=>ad (xd n c) λB=>bH (λq (d:Int)=>cond (ak (d<U B)) (ad (aC B d) λh=>ad (aC A h.gi) λi=>ad (aC A h.gj) λk=>bl (λr=>cond r (Y ((dv [] []),ao)) (q (wr (d+1)))) (λe=>cond (ak (i.cf=a)) (cond (ak (k.cf=wr (a+1))) (ad (zT n k.dS i.dS) λw=>e w) (e ao)) (e ao))) (ad (aC c.aq a) λl=>ad (app [] l.a') λx=>ad (aC c.aq (wr (a+1))) λy=>ad (app x y.a') λz=>ad (lz n c a 2 [(cV l.a6 z)]) λm=>Y (m.1,m.2))) n 0)) λo=>ad (nu n c) λF=>cond (!F) (o I) (cond (ak (a<0)) (o I) (cond (ak (wr ((U c.aq:Int)-1)<=a)) (o I) (ad (aC c.aq a) λG=>ad (aC c.aq (wr (a+1))) λH=>ad (DL n G.a6 H.a6) λK=>o (!K))))
def B'(n:Nat)(p:bx)(c a:Int):aL (bx×Bool):=ad (mI n p) λh=>bl (λA=>cond A (Y ((dv [] []),ao)) (ad (rq n h) λy=>ad (xd n h) λz=>bH (λB (q:Int)=>cond (ak (q<U z)) (ad (aC z q) λi=>ad (aC y i.gi) λk=>ad (aC y i.gj) λl=>bl (λr=>cond r (Y ((dv [] []),ao)) (B (wr (q+1)))) (λe=>cond (ak (k.cf=c)) (cond (ak (l.cf=c)) (cond (ak (a<=k.stmt)) (e (ak (l.stmt<a))) (e ao)) (e ao)) (e ao))) (ad (aC h.aq c) λd=>ad (sub d.a' 0 a) λw=>ad (sub d.a' a (U d.a')) λx=>ad (lz n h c 1 [(cV d.a6 w),(cV d.a6 x)]) λm=>Y (m.1,m.2))) n 0)) λo=>ad (nu n h) λC=>cond (!C) (o I) (cond (ak (c<0)) (o I) (cond (ak ((U h.aq:Int)<=c)) (o I) (cond (ak (a<1)) (o I) (ad (aC h.aq c) λF=>o (ak ((U F.a':Int)<=a))))))
def Iu(n:Nat)(p:bx)(c a:Int):aL (bx×Bool):=ad (mI n p) λi=>ad (p2 n i c 0) λx=>cond (!x) (Y ((dv [] []),ao)) (ad (aC i.aq c) λd=>ad (aC d.a6 0) λy=>ad (zI n y) λe=>bl (λz=>cond z (Y ((dv [] []),ao)) (ad (iJ n e.1) λA=>ad (iJ n a) λB=>ad (sub d.a6 1 (U d.a6)) λk=>ad (app [(dD [A] [B])] k) λl=>ad (iJ n a) λm=>ad (iJ n e.2.1) λo=>ad (sub d.a6 1 (U d.a6)) λq=>ad (app [(dD [m] [o])] q) λr=>ad (lz n i c 1 [(cV l d.a'),(cV r d.a')]) λh=>Y (h.1,h.2))) λw=>cond (!e.2.2) (w I) (cond (ak (a<e.1)) (w I) (w (ak (e.2.1<a)))))
def D'(n:Nat)(p:bx):aL Int:=bH (λd ((c,a):Int×Int)=>cond (ak (a<U p.a7)) (ad (aC p.a7 a) λe=>ad (Aj n e) λh=>d (wr (c+h),wr (a+1))) (Y c)) n (0,0)
def Is(n:Nat)(a:List Bool):aL bo:=bH (λh ((d,c):bo×Int)=>cond (ak (c<U a)) (bl (fun(i:bo)=>h (i,wr (c+1))) (λe=>ad (aC a c) λk=>cond k (ad (app d [c]) λl=>e l) (e d))) (Y d)) n ([],0)
def wh(n:Nat)(p:bx)(e:Int)(a:Bool):aL bo:=ad (D' n p) λC=>ad (mk C ao) λF=>ad (rq n p) λA=>ad (xc n p) λB=>bH (λG ((h,i):(List Bool)×Int)=>cond (ak (i<U A)) (bl (fun(o:(List Bool))=>G (o,wr (i+1))) (λq=>ad (aC A i) λr=>cond (!decide (r.cf=e)) (q h) (cond a (ad (aC B i) λk=>ad (aC h k.dI) λH=>ad (cW h k.dI I) λw=>q w) (bH (λx ((c,d):(List Bool)×Int)=>ad (aC B i) λl=>cond (ak (d<U l.reads)) (ad (aC l.reads d) λm=>ad (aC c m) λK=>ad (cW c m I) λy=>x (y,wr (d+1))) (q c)) n (h,0))))) (ad (Is n h) λz=>Y z)) n (F,0)
def zM(n:Nat)(a:bo)(b:bo):aL Bool:=bH (λd (c:Int)=>cond (ak (c<U a)) (ad (aC a c) λe=>ad (xt n b e) λh=>cond h (Y I) (d (wr (c+1)))) (Y ao)) n 0
def GZ(n:Nat)(p:bx)(a b:Int):aL Bool:=bl (λm=>cond m (Y ao) (ad (wh n p a I) λk=>ad (wh n p b I) λl=>bl (λd=>Y d) λe=>ad (zM n k l) λo=>cond (!o) (ad (wh n p b ao) λq=>ad (zM n k q) λr=>cond (!r) (ad (wh n p a ao) λh=>ad (zM n l h) λi=>e (!i)) (e ao)) (e ao))) λc=>ad (nu n p) λw=>cond (!w) (c I) (cond (ak (a<0)) (c I) (cond (ak (b<0)) (c I) (cond (ak ((U p.aq:Int)<=a)) (c I) (cond (ak ((U p.aq:Int)<=b)) (c I) (c (ak (a=b)))))))
def CW(n:Nat)(p:bx)(a:Int):aL (bx×Bool):=ad (mI n p) λc=>ad (GZ n c a (wr (a+1))) λe=>cond (!e) (Y ((dv [] []),ao)) (ad (aC c.aq (wr (a+1))) λh=>ad (aC c.aq a) λi=>ad (lz n c a 2 [h,i]) λd=>Y (d.1,d.2))
def DF(n:Nat)(c:List nk)(a d:Int):aL Int:=bH (λh (e:Int)=>cond (ak ((0:Int)<=e)) (ad (aC c e) λi=>cond (ak (i.dI=d)) (Y e) (h (wr (e-1)))) (Y (-1))) n (wr (a-1))
def Ho(n:Nat)(p:bx):aL bo:=ad (nu n p) λf=>cond (!f) (Y []) (ad (xc n p) λd=>ad (mk (U d) ao) λg=>bH (λj ((o,a):(List Bool)×Int)=>cond (ak ((0:Int)<=a)) (bH (λq ((b,r):Bool×Int)=>cond (ak (r<U d)) (bl (λw=>q (w,wr (r+1))) (λi=>cond b (ad (aC d r) λx=>ad (aC d a) λy=>i (!decide (x.dI=y.dI))) (i ao))) (bl (fun(z:(List Bool))=>bH (λA ((c,e):(List Bool)×Int)=>bl (λB=>cond B (bl (fun(C:(List Bool))=>A (C,wr (e+1))) (λk=>ad (aC d a) λF=>ad (aC F.reads e) λG=>ad (DF n d a G) λh=>cond (ak ((0:Int)<=h)) (ad (aC c h) λs=>ad (cW c h I) λH=>k H) (k c))) (j (c,wr (a-1)))) λl=>ad (aC d a) λK=>cond (ak (e<U K.reads)) (ad (aC c a) λL=>l L) (l ao)) n (z,0)) λm=>ad (aC o a) λQ=>cond Q (ad (cW o a I) λR=>m R) (ad (cW o a b) λW=>m W))) n (I,wr (a+1))) (ad (Is n o) λX=>Y X)) n (g,wr ((U d:Int)-1)))
def Dp(n:Nat)(p:bx)(a:Int):aL (bx×Bool):=ad (mI n p) λc=>bl (λl=>cond l (Y ((dv [] []),ao)) (ad (Ho n c) λk=>ad (rq n c) λm=>bH (λo (e:Int)=>cond (ak (e<U k)) (ad (aC k e) λq=>ad (aC m q) λh=>cond (ak (h.cf=a)) (Y ((dv [] []),ao)) (o (wr (e+1)))) (ad (lz n c a 1 []) λd=>Y (d.1,d.2))) n 0)) λi=>ad (nu n c) λr=>cond (!r) (i I) (cond (ak (a<0)) (i I) (i (ak ((U c.aq:Int)<=a))))
def E6(n:Nat)(a:Int):aL bW:=Y (fz 1 a (du [] 0) (fC [] []) [])
def E5(n:Nat)(e:bW)(a b:Int):aL bW:=bl (fun(c:Int)=>bl (λi=>cond i (Y e) (ad (E6 n c) λk=>Y k)) λh=>cond (ak (c<0)) (h I) (h (ak ((99:Int)<c)))) λd=>cond (ak (e.aU=4)) (d (wr (a+b))) (cond (ak (e.aU=5)) (d (wr (a-b))) (d (wr (a*b))))
def r9(n:Nat)(e:bW)(a:Int):aL Bool:=bl (λd=>Y d) λc=>cond (ak (e.aU=1)) (c (ak (e.cA=a))) (c ao)
def zS(n:Nat)(e:bW):aL bW:=bl (λK=>cond K (ad (E6 n e.dp.cv) λL=>Y L) (cond (ak ((U e.bS:Int)=0)) (Y e) (ad (aC e.bS 0) λh=>ad (aC e.bS 1) λi=>bl (λQ=>cond Q (ad (E5 n e h.cA i.cA) λR=>Y R) (bl (λq=>cond q (Y h) (bl (λr=>cond r (Y i) (bl (λw=>cond w (ad (E6 n 0) λx=>Y x) (Y e)) λa=>cond (ak (e.aU=6)) (ad (r9 n h 0) λy=>cond y (a I) (ad (r9 n i 0) λz=>a z)) (a ao))) λc=>bl (λk=>cond k (c k) (cond (ak (e.aU=6)) (ad (r9 n h 1) λA=>c A) (c ao))) λl=>cond (ak (e.aU=4)) (ad (r9 n h 0) λB=>l B) (l ao))) λd=>bl (λm=>cond m (d m) (cond (ak (e.aU=6)) (ad (r9 n i 1) λC=>d C) (d ao))) λo=>cond (!decide (e.aU=6)) (ad (r9 n i 0) λF=>o F) (o ao))) λH=>cond (ak (h.aU=1)) (H (ak (i.aU=1))) (H ao)))) λG=>cond (ak (e.aU=2)) (ad (qL n e.dp) λW=>cond (ak (W=0)) (G (ak ((0:Int)<=e.dp.cv))) (G ao)) (G ao)
def ue:Nat->bW->aL bW
 |0,_=>al
 |n+1,e=>(ad (tg n e.dp) λh=>ad (th n e.dL) λi=>bH (λk ((d,a):(List bW)×Int)=>cond (ak (a<U e.bS)) (ad (aC e.bS a) λl=>ad (ue n l) λm=>ad (app d [m]) λo=>k (o,wr (a+1))) (ad (zS n (fz e.aU e.cA h i d)) λc=>Y c)) n ([],0))
def DM(n:Nat)(s:cT):aL (cT×Bool):=ad (wa n s 4) λa=>cond (!a) (Y ((kf (fC [] []) (fz 0 0 (du [] 0) (fC [] []) [])),ao)) (ad (th n s.dI) λc=>ad (ue n s.cz) λd=>Y ((kf c d),I))
def HR(n:Nat)(p:bx):aL (bx×Bool):=ad (mI n p) λq=>ad (nu n q) λw=>cond (!w) (Y ((dv [] []),ao)) (ad (wW n q) λr=>bH (λx ((e,c):(List cq)×Int)=>cond (ak (c<U e)) (bH (λh ((i,d):(List cq)×Int)=>ad (aC i c) λa=>cond (ak (d<U a.a')) (ad (aC a.a' d) λk=>ad (DM n k) λl=>ad (cW a.a' d l.1) λm=>ad (cW i c ({a with a':=m})) λo=>h (o,wr (d+1))) (x (i,wr (c+1)))) n (e,0)) (Y ((dv r.a7 e),I))) n (r.aq,0))
def DI(n:Nat)(s:e7):aL Bool:=ad (CV n s.aU) λd=>bl (λe=>Y e) λc=>cond (ak ((1:Int)<=s.aU)) (cond (ak (s.aU<=11)) (cond (ak ((0:Int)<d)) (cond (ak ((1:Int)<d)) (cond (ak ((2:Int)<d)) (c I) (c (ak (s.b=0)))) (cond (ak (s.a=0)) (cond (ak ((2:Int)<d)) (c I) (c (ak (s.b=0)))) (c ao))) (cond (ak (s.cf=0)) (cond (ak ((1:Int)<d)) (cond (ak ((2:Int)<d)) (c I) (c (ak (s.b=0)))) (cond (ak (s.a=0)) (cond (ak ((2:Int)<d)) (c I) (c (ak (s.b=0)))) (c ao))) (c ao))) (c ao)) (c ao)
def ER(n:Nat)(x:b4)(v:Int):aL Bool:=bH (λd (a:Int)=>cond (ak (a<U x.bD)) (ad (aC x.bD a) λe=>ad (aC e.bg v) λh=>cond (!decide (h=0)) (Y I) (d (wr (a+1)))) (bH (λi (c:Int)=>cond (ak (c<U x.aO)) (ad (aC x.aO c) λk=>ad (aC k.bg v) λl=>cond (!decide (l=0)) (Y I) (i (wr (c+1)))) (Y ao)) n 0)) n 0
def FP(n:Nat)(a:dT)(d:bo):aL dT:=bH (λB ((e,h,i):dT×Bool×Int)=>cond (ak (i<U a)) (ad (aC a i) λk=>ad (Am n k d) λC=>cond C (Y a) (bl (fun((l,m):dT×Bool)=>ad (app l [k]) λo=>B (o,m,wr (i+1))) (λz=>bl (λq=>cond q (ad (app e [d]) λr=>z (r,I)) (z (e,h))) λA=>cond (!h) (ad (zT n d k) λw=>A w) (A ao)))) (bl (fun(x:dT)=>Y x) λc=>cond (!h) (ad (app e [d]) λy=>c y) (c e))) n ([],ao,0)
def D8(n:Nat)(a:bo)(b:bo):aL bo:=bH (λe ((d,c):bo×Int)=>cond (ak (c<U a)) (ad (aC a c) λh=>ad (aC b c) λi=>ad (app d [wr (h-i)]) λk=>e (k,wr (c+1))) (Y d)) n ([],0)
def Cv(n:Nat)(p:bx)(a:Int):aL dT:=ad (rq n p) λq=>ad (xd n p) λr=>bH (λy ((h,i):dT×Int)=>cond (ak (i<U r)) (bl (fun((z,A,B,C,F,G,k):Int×Int×bo×Int×Int×bo×dT)=>y (k,wr (i+1))) (λw=>ad (aC r i) λx=>ad (aC q x.gi) λc=>ad (aC q x.gj) λd=>bl (λl=>cond l (ad (D8 n d.dS c.dS) λm=>ad (FP n h m) λo=>w (c.cf,c.stmt,c.dS,d.cf,d.stmt,d.dS,o)) (w (c.cf,c.stmt,c.dS,d.cf,d.stmt,d.dS,h))) λe=>cond (ak (c.cf=a)) (e (ak (d.cf=a))) (e ao))) (Y h)) n ([],0)
def Ia(n:Nat)(d:bo):aL Int:=bH (λc (a:Int)=>cond (ak (a<U d)) (ad (aC d a) λe=>cond (!decide (e=0)) (Y a) (c (wr (a+1)))) (Y (-1))) n 0
def Ah(n:Nat)(d:bo):aL Bool:=ad (Ia n d) λa=>bl (λe=>Y e) λc=>cond (ak (a<0)) (c I) (ad (aC d a) λh=>c (ak ((0:Int)<h)))
def HQ(n:Nat)(p:bx)(c a:Int):aL (bx×Bool):=ad (mI n p) λi=>bl (λH=>cond H (Y ((dv [] []),ao)) (ad (Cv n i c) λG=>bH (λq (e:Int)=>cond (ak (e<U G)) (ad (aC G e) λh=>ad (app [] h) λk=>ad (aC h (wr (a+1))) λr=>ad (aC k a) λK=>ad (cW k a r) λl=>ad (aC h a) λw=>ad (aC l (wr (a+1))) λL=>ad (cW l (wr (a+1)) w) λx=>ad (Ah n x) λy=>cond (!y) (Y ((dv [] []),ao)) (q (wr (e+1)))) (ad (aC i.aq c) λz=>ad (wA n z (wr (a+1)) 0 a (du [] 0)) λd=>ad (aC d.a6 a) λA=>ad (aC d.a6 (wr (a+1))) λB=>ad (cW d.a6 a B) λm=>ad (aC m (wr (a+1))) λQ=>ad (cW m (wr (a+1)) A) λC=>ad (lz n i c 1 [(cV C d.a')]) λo=>Y (o.1,o.2))) n 0)) λF=>ad (p2 n i c a) λR=>cond (!R) (F I) (ad (p2 n i c (wr (a+1))) λW=>cond (!W) (F I) (ad (aC i.aq c) λX=>ad (aC X.a6 (wr (a+1))) λb=>ad (ER n b a) λf=>F f))
def HP(n:Nat)(p:bx)(c a:Int):aL (bx×Bool):=ad (mI n p) λk=>ad (p2 n k c a) λG=>cond (!G) (Y ((dv [] []),ao)) (ad (aC k.aq c) λB=>ad (aC B.a6 a) λH=>ad (zI n H) λl=>ad (Cv n k c) λC=>bH (λK ((F,m):Bool×Int)=>cond (ak (m<U C)) (bl (fun((L,o):bo×Bool)=>K (o,wr (m+1))) (λe=>ad (aC C m) λq=>ad (app [] q) λh=>ad (aC h a) λr=>ad (cW h a (wr (0-r))) λd=>cond F (ad (Ah n d) λw=>e (d,w)) (e (d,ao)))) (cond (!F) (Y ((dv [] []),ao)) (ad (iJ n (wr ((wr (l.1+l.2.1))-1))) λx=>ad (oB n a) λy=>ad (kp n x 1 y (-1)) λz=>ad (wA n B a 1 a z) λA=>ad (lz n k c 1 [A]) λi=>Y (i.1,i.2)))) n (l.2.2,0))
def zf(n:Nat)(p:bx)(s:e7):aL (bx×Bool):=ad (mI n p) λc=>ad (DI n s) λx=>cond (!x) (Y ((dv [] []),ao)) (cond (ak (s.aU=1)) (ad (HQ n c s.cf s.a) λk=>Y (k.1,k.2)) (cond (ak (s.aU=2)) (ad (HP n c s.cf s.a) λl=>Y (l.1,l.2)) (cond (ak (s.aU=3)) (ad (DK n c s.cf s.a s.b) λm=>Y (m.1,m.2)) (cond (ak (s.aU=4)) (ad (Iv n c s.cf s.a s.b) λo=>Y (o.1,o.2)) (cond (ak (s.aU=5)) (ad (It n c s.cf s.a s.b) λq=>Y (q.1,q.2)) (cond (ak (s.aU=6)) (ad (CX n c s.cf) λr=>Y (r.1,r.2)) (cond (ak (s.aU=7)) (ad (B' n c s.cf s.a) λw=>Y (w.1,w.2)) (cond (ak (s.aU=8)) (ad (Iu n c s.cf s.a) λd=>Y (d.1,d.2)) (cond (ak (s.aU=9)) (ad (CW n c s.cf) λe=>Y (e.1,e.2)) (cond (ak (s.aU=10)) (ad (Dp n c s.cf) λh=>Y (h.1,h.2)) (ad (HR n c) λi=>Y (i.1,i.2))))))))))))
def Ed(n:Nat)(h:e9)(p:bx):aL ((List e7)×e9):=ad (hS n h [2,3,1,4,0,6]) λr=>bH (λf ((L,Q,R,W,q,X):bq×Int×(List de)×(List cq)×(List e7)×Int)=>cond (ak ((0:Int)<X)) (bl (fun((w,x,y,z,A):bq×Int×(List de)×(List cq)×(List e7))=>f (w,x,y,z,A,wr (X-1))) (λi=>bH (λB ((k,l,m):bq×Int×Int)=>cond (ak (m<4)) (ad (zL n (gA k l)) λa=>ad (zf n (dv R W) a.1) λd=>cond d.2 (ad (app q [a.1]) λC=>i (a.2.b,a.2.p,d.1.a7,d.1.aq,C)) (B (a.2.b,a.2.p,wr (m+1)))) (i (k,l,R,W,q))) n (L,Q,0))) (bl (fun((F,G,H):bq×Int×(List e7))=>Y (H,(gA F G))) λo=>ad (iY n (gA L Q) 12) λc=>cond (ak (c.1=0)) (ad (zL n c.2) λe=>ad (app q [e.1]) λK=>o (e.2.b,e.2.p,K)) (o (c.2.b,c.2.p,q)))) n (r.2.b,r.2.p,p.a7,p.aq,[],r.1)
def zl(n:Nat)(e:e9)(i:List b4):aL ((List b4)×e9):=ad (xh n i) λa=>cond (ak ((U a:Int)=0)) (Y (a,e)) (bl (fun((l,m,o):bq×Int×(List b4))=>Y (o,(gA l m))) λh=>ad (iY n e 40) λc=>cond (ak (c.1=0)) (ad (aC a 0) λK=>ad (iY n c.2 2) λq=>ad (oB n q.1) λL=>ad (app K.bD [L]) λQ=>ad (cW a 0 ({K with bD:=Q})) λR=>h (q.2.b,q.2.p,R)) (cond (ak (c.1=1)) (ad (aC a (wr ((U a:Int)-1))) λW=>ad (cW a (wr ((U a:Int)-1)) ({W with aO:=[]})) λr=>h (c.2.b,c.2.p,r)) (cond (ak (c.1=2)) (ad (aC a (wr ((U a:Int)-1))) λk=>ad (iJ n 1) λw=>ad (iJ n 2) λx=>ad (app k.aO [w,x]) λy=>ad (cW a (wr ((U a:Int)-1)) ({k with aO:=y})) λz=>h (c.2.b,c.2.p,z)) (cond (ak (c.1=3)) (ad (iJ n 99) λA=>ad (aC a 0) λB=>ad (cW a 0 ({B with aO:=[A]})) λC=>h (c.2.b,c.2.p,C)) (cond (ak (c.1=4)) (bH (λF (d:(List b4))=>cond (ak ((U d:Int)<=4)) (ad (aC d 0) λG=>ad (app d [G]) λH=>F H) (h (c.2.b,c.2.p,d))) n a) (h (c.2.b,c.2.p,a)))))))
def zk(n:Nat)(e:e9)(s:cT):aL (cT×e9):=ad (wX n s) λa=>bl (fun((h,i,k,l,m,o,q):bq×Int×(List aR)×(List bW)×bq×Int×Int)=>Y ((kf (fC m k) (fz o q a.cz.dp a.cz.dL l)),(gA h i))) λd=>ad (iY n e 40) λc=>cond (ak (c.1=0)) (ad (rR n c.2 [[69],[],[65,66],[97]]) λr=>d (r.2.b,r.2.p,a.dI.b7,a.cz.bS,r.1,a.cz.aU,a.cz.cA)) (cond (ak (c.1=1)) (ad (oB n 3) λz=>ad (qP n) λA=>ad (app a.dI.b7 [z,A]) λB=>d (c.2.b,c.2.p,B,a.cz.bS,a.dI.ew,a.cz.aU,a.cz.cA)) (cond (ak (c.1=2)) (ad (hS n c.2 [0,7,1,4,2]) λw=>d (w.2.b,w.2.p,a.dI.b7,a.cz.bS,a.dI.ew,w.1,a.cz.cA)) (cond (ak (c.1=3)) (ad (hS n c.2 [100,(-1),1]) λx=>d (x.2.b,x.2.p,a.dI.b7,a.cz.bS,a.dI.ew,a.cz.aU,x.1)) (cond (ak (c.1=4)) (ad (app a.cz.bS [(fz 1 0 (du [] 0) (fC [] []) [])]) λy=>d (c.2.b,c.2.p,a.dI.b7,y,a.dI.ew,a.cz.aU,a.cz.cA)) (d (c.2.b,c.2.p,a.dI.b7,a.cz.bS,a.dI.ew,a.cz.aU,a.cz.cA))))))
def DG(n:Nat)(k:e9)(p:bx):aL (bx×e9):=ad (wW n p) λa=>bl (fun((x,y,z,A):bq×Int×(List de)×(List cq))=>Y ((dv z A),(gA x y))) λd=>ad (iY n k 60) λc=>cond (ak (c.1=0)) (ad (rR n c.2 [[65],[68],[69]]) λX=>ad (hS n X.2 [7,0,3,(-1)]) λB=>ad (app a.a7 [(sv X.1 [B.1])]) λf=>d (B.2.b,B.2.p,f,a.aq)) (cond (ak (c.1=1)) (cond (ak ((0:Int)<U a.a7)) (ad (hS n c.2 [1,2,7]) λC=>ad (aC a.a7 0) λg=>ad (cW a.a7 0 ({g with cr:=[C.1]})) λj=>d (C.2.b,C.2.p,j,a.aq)) (d (c.2.b,c.2.p,a.a7,a.aq))) (cond (ak (c.1=2)) (cond (ak ((0:Int)<U a.aq)) (ad (aC a.aq 0) λl=>ad (zl n c.2 l.a6) λm=>ad (zl n m.2 m.1) λo=>ad (zl n o.2 o.1) λe=>ad (cW a.aq 0 ({l with a6:=e.1})) λF=>d (e.2.b,e.2.p,a.a7,F)) (d (c.2.b,c.2.p,a.a7,a.aq))) (cond (ak (c.1=3)) (bl (λG=>cond G (ad (aC a.aq (wr ((U a.aq:Int)-1))) λh=>ad (aC h.a' 0) λH=>ad (zk n c.2 H) λq=>ad (zk n q.2 q.1) λr=>ad (zk n r.2 r.1) λi=>ad (cW h.a' 0 i.1) λK=>ad (cW a.aq (wr ((U a.aq:Int)-1)) ({h with a':=K})) λL=>d (i.2.b,i.2.p,a.a7,L)) (d (c.2.b,c.2.p,a.a7,a.aq))) (λw=>cond (ak ((0:Int)<U a.aq)) (ad (aC a.aq (wr ((U a.aq:Int)-1))) λQ=>w (ak ((0:Int)<U Q.a'))) (w ao))) (cond (ak (c.1=4)) (cond (ak ((0:Int)<U a.aq)) (ad (aC a.aq (wr ((U a.aq:Int)-1))) λR=>ad (cW a.aq (wr ((U a.aq:Int)-1)) ({R with a':=[]})) λW=>d (c.2.b,c.2.p,a.a7,W)) (d (c.2.b,c.2.p,a.a7,a.aq))) (d (c.2.b,c.2.p,a.a7,a.aq))))))
def Hp(n:Nat)(a:bq):aL (bx×e7):=ad (Ec n a) λe=>ad (Ee n e) λc=>ad (Ed n c.2 c.1) λd=>cond (ak ((0:Int)<U d.1)) (ad (DG n d.2 c.1) λh=>ad (aC d.1 0) λi=>Y (h.1,i)) (ad (zL n d.2) λk=>Y (c.1,k.1))
def r1(n:Nat)(a:Int):aL Int:=bl (λh=>cond h (Y 2) (bl (λi=>cond i (Y 3) (bl (λk=>cond k (Y 1) (cond (ak (a=11)) (Y 0) (Y (-1)))) λd=>cond (ak (a=6)) (d (ak (a=6))) (cond (ak (a=9)) (d (ak (a=9))) (d (ak (a=10)))))) λe=>cond (ak (a=3)) (e (ak (a=3))) (cond (ak (a=4)) (e (ak (a=4))) (e (ak (a=5)))))) λc=>cond (ak (a=1)) (c (ak (a=1))) (cond (ak (a=2)) (c (ak (a=2))) (cond (ak (a=7)) (c (ak (a=7))) (c (ak (a=8)))))
def tc(n:Nat)(s:bo)(f:Int->aL Bool):aL Int:=bH (λc (a:Int)=>cond (ak (a<U s)) (ad (aC s a) λd=>ad (f d) λe=>cond e (Y a) (c (wr (a+1)))) (Y (-1))) n 0
def oc(n:Nat)(s:bo)(f:Int->aL Bool):aL Bool:=ad (tc n s f) λa=>Y (ak ((0:Int)<=a))
def tN(n:Nat)(s:e7):aL bo:=Y [s.cf,s.a,s.b]
def IA(n:Nat)(v:Int):aL Bool:=Y (!decide (v=0))
def wD(n:Nat)(s:e7):aL Bool:=ad (r1 n s.aU) λa=>bl (λe=>Y e) λc=>cond (ak ((0:Int)<=a)) (ad (tN n s) λd=>ad (sub d a (U d)) λh=>ad (oc n h λi=>IA n i) λk=>c (!k)) (c ao)
def gO(n:Nat)(a low high:Int):aL Bool:=bl (λd=>Y d) λc=>cond (ak (low<=a)) (c (ak (a<=high))) (c ao)
def tL(n:Nat)(a:Int):aL Bool:=ad (gO n a 1 6) λc=>Y (!c)
def zY(n:Nat)(s:bq):aL Bool:=bl (λc=>Y c) λa=>cond (ak ((U s:Int)=1)) (ad (Cr [65,66,67,68] s) λd=>a d) (a ao)
def DX(n:Nat)(a:List de):aL Bool:=bH (λl (e:Int)=>cond (ak (e<U a)) (ad (aC a e) λc=>bl (λh=>cond h (Y ao) (l (wr (e+1)))) (λd=>ad (zY n c.ed) λm=>cond (!m) (d I) (cond (ak ((0:Int)<e)) (ad (aC a (wr (e-1))) λo=>cond (!Op.bytesLess o.ed c.ed) (d I) (ad (gO n (U c.cr) 1 2) λq=>cond (!q) (d I) (ad (oc n c.cr λi=>tL n i) λk=>d k))) (ad (gO n (U c.cr) 1 2) λr=>cond (!r) (d I) (ad (oc n c.cr λi=>tL n i) λw=>d w))))) (Y (ak ((U a:Int)<=4)))) n 0
def G0(n:Nat)(s:List aR)(f:aR->aL Bool):aL Int:=bH (λc (a:Int)=>cond (ak (a<U s)) (ad (aC s a) λd=>ad (f d) λe=>cond e (Y a) (c (wr (a+1)))) (Y (-1))) n 0
def rn(n:Nat)(s:List aR)(f:aR->aL Bool):aL Bool:=ad (G0 n s f) λa=>Y (ak ((0:Int)<=a))
def tk(n:Nat)(a:aR):aL Int:=bH (λe (c:Int)=>bl (λh=>cond h (e (wr (c-1))) (Y c)) λd=>cond (ak ((0:Int)<c)) (ad (aC a.bg (wr (c-1))) λi=>d (ak (i=0))) (d ao)) n (U a.bg)
def zX(n:Nat)(a:Int):aL Bool:=ad (gO n a (-99) 99) λc=>Y c
def Cj(n:Nat)(c:Int):aL Bool:=ad (gO n c (-9) 9) λa=>Y (!a)
def vX(n:Nat)(a:aR):aL Bool:=bl (λd=>Y d) λc=>cond (ak ((U a.bg:Int)=4)) (ad (zX n a.cv) λe=>cond e (ad (oc n a.bg λh=>Cj n h) λi=>c (!i)) (c ao)) (c ao)
def y7(n:Nat)(a:aR)(c:Int):aL Bool:=bl (λe=>Y e) λd=>ad (vX n a) λh=>cond (!h) (d I) (ad (tk n a) λi=>d (ak (c<i)))
def Di(n:Nat)(a:List aR)(c:Int):aL Bool:=bl (λe=>Y e) λd=>ad (gO n (U a) 1 2) λh=>cond h (ad (rn n a λi=>y7 n i c) λk=>d (!k)) (d ao)
def IG(n:Nat)(a:List b4):aL Bool:=bH (λh (c:Int)=>cond (ak (c<U a)) (ad (aC a c) λd=>bl (λi=>cond i (Y ao) (h (wr (c+1)))) (λe=>ad (Di n d.bD c) λk=>cond (!k) (e I) (ad (Di n d.aO c) λl=>e (!l)))) (Y (ak ((U a:Int)<=4)))) n 0
def qw(n:Nat)(a:aR)(c:bo):aL Int:=bH (λh ((e,d):Int×Int)=>cond (ak (d<U c)) (ad (aC c d) λi=>ad (aC a.bg d) λk=>h (wr (e+(wr (k*i))),wr (d+1))) (Y e)) n (a.cv,0)
def II(n:Nat)(l:b4)(a:bo):aL (Int×Int):=ad (aC l.bD 0) λo=>ad (qw n o a) λq=>ad (aC l.aO 0) λr=>ad (qw n r a) λw=>bH (λx ((m,e):Int×Int)=>cond (ak (e<U l.bD)) (ad (aC l.bD e) λy=>ad (qw n y a) λz=>x (max m z,wr (e+1))) (bH (λh ((d,c):Int×Int)=>cond (ak (c<U l.aO)) (ad (aC l.aO c) λi=>ad (qw n i a) λk=>h (min d k,wr (c+1))) (Y (m,d))) n (w,0))) n (q,0)
def tF:Nat->pz->bo->aL (Bool×pz)
 |0,_,_=>al
 |n+1,a,c=>(cond (ak ((U c:Int)=U a.a6)) (ad (lE c) λB=>ad (app a.out [B]) λz=>Y (ak ((U z:Int)<=120),(⟨a.a6,a.steps,z⟩:pz))) (ad (aC a.a6 (U c)) λC=>ad (II n C c) λA=>bH (λm ((o,l,q,r):(List b4)×Int×dT×Int)=>cond (ak (r<A.2)) (bl (fun((e,h,i,w):(List b4)×Int×dT×Bool)=>cond w (Y (ao,(⟨e,h,i⟩:pz))) (m (e,h,i,wr (r+1)))) (λk=>cond (ak ((1200:Int)<wr ((wr (l+1))+1))) (k (o,wr (l+1),q,I)) (ad (lE c) λx=>ad (app x [r]) λy=>ad (tF n (⟨o,wr (l+1),q⟩:pz) y) λd=>k (d.2.a6,d.2.steps,d.2.out, !d.1)))) (Y (I,(⟨o,l,q⟩:pz)))) n (a.a6,a.steps,a.out,A.1)))
def H5(n:Nat)(a:List b4):aL (dT×Bool):=ad (IG n a) λd=>cond (!d) (Y ([],ao)) (ad (tF n (⟨a,0,[]⟩:pz) []) λc=>cond (!c.1) (Y ([],ao)) (Y (c.2.out,I)))
def N5(n:Nat)(s:List cT)(f:cT->aL Bool):aL Int:=bH (λc (a:Int)=>cond (ak (a<U s)) (ad (aC s a) λd=>ad (f d) λe=>cond e (Y a) (c (wr (a+1)))) (Y (-1))) n 0
def GY(n:Nat)(s:List cT)(f:cT->aL Bool):aL Bool:=ad (N5 n s f) λa=>Y (ak ((0:Int)<=a))
def CK(n:Nat)(s:aR)(a:Int):aL Bool:=bl (λd=>Y d) λc=>ad (vX n s) λe=>cond (!e) (c I) (ad (tk n s) λh=>c (ak (a<h)))
def Dj(n:Nat)(a:dr)(c:Int):aL Bool:=bl (λe=>Y e) λd=>ad (zY n a.ew) λh=>cond h (ad (gO n (U a.b7) 1 2) λi=>cond i (ad (rn n a.b7 λk=>CK n k c) λl=>d (!l)) (d ao)) (d ao)
def Dv(n:Nat)(a:aR):aL Bool:=bl (λd=>Y d) λc=>cond (ak ((U a.bg:Int)=0)) (c (ak (a.cv=0))) (c ao)
def wu(n:Nat)(a:dr):aL Bool:=bl (λd=>Y d) λc=>cond (ak (a.ew=[])) (c (ak ((U a.b7:Int)=0))) (c ao)
def uY(n:Nat)(a:Int):aL Bool:=ad (gO n a 4 6) λc=>Y c
def rL:Nat->bW->Int->Int->Int->aL (Bool×Int)
 |0,_,_,_,_=>al
 |n+1,e,a,c,count=>(bl (λW=>cond W (Y (ao,wr (count+1))) (bl (λr=>cond r (Y (ao,wr (count+1))) (cond (ak (e.aU=1)) (bl (λw=>Y (w,wr (count+1))) (λk=>ad (gO n e.cA 0 99) λx=>cond x (k (ak ((U e.bS:Int)=0))) (k ao))) (cond (ak (e.aU=2)) (bl (λy=>Y (y,wr (count+1))) (λh=>ad (vX n e.dp) λz=>cond z (ad (tk n e.dp) λA=>cond (ak (A<=a)) (h (ak ((U e.bS:Int)=0))) (h ao)) (h ao))) (cond (ak (e.aU=3)) (bl (λB=>Y (B,wr (count+1))) (λl=>ad (Dj n e.dL a) λC=>cond C (l (ak ((U e.bS:Int)=0))) (l ao))) (bl (λF=>cond F (Y (ao,wr (count+1))) (bl (fun((G,H):Int×Bool)=>Y (H,G)) λm=>ad (aC e.bS 0) λK=>ad (rL n K a (wr (c+1)) (wr (count+1))) λi=>cond i.1 (ad (aC e.bS 1) λL=>ad (rL n L a (wr (c+1)) i.2) λo=>m (o.2,o.1)) (m (i.2,ao)))) λq=>ad (uY n e.aU) λQ=>cond (!Q) (q I) (q (!decide ((U e.bS:Int)=2)))))))) λd=>cond (!decide (e.aU=1)) (cond (!decide (e.cA=0)) (d I) (cond (!decide (e.aU=2)) (ad (Dv n e.dp) λX=>cond (!X) (d I) (cond (!decide (e.aU=3)) (ad (wu n e.dL) λb=>d (!b)) (d ao))) (cond (!decide (e.aU=3)) (ad (wu n e.dL) λf=>d (!f)) (d ao)))) (cond (!decide (e.aU=2)) (ad (Dv n e.dp) λg=>cond (!g) (d I) (cond (!decide (e.aU=3)) (ad (wu n e.dL) λj=>d (!j)) (d ao))) (cond (!decide (e.aU=3)) (ad (wu n e.dL) λp=>d (!p)) (d ao))))) λR=>cond (ak ((12:Int)<wr (count+1))) (R I) (R (ak ((5:Int)<c))))
def C2(n:Nat)(s:cT)(a:Int):aL Bool:=bl (fun((k,e):Int×Bool)=>Y e) λc=>ad (gO n a 0 4) λh=>cond h (ad (Dj n s.dI a) λi=>cond i (ad (rL n s.cz a 1 0) λd=>c (d.2,d.1)) (c (0,ao))) (c (0,ao))
def Bw(n:Nat)(s:cT)(a:cq):aL Bool:=ad (C2 n s (U a.a6)) λc=>Y (!c)
def CZ(n:Nat)(a:Int):aL Bool:=ad (gO n a (-9999) 9999) λc=>Y (!c)
def Ep(n:Nat)(a:bo):aL Bool:=bl (λd=>Y d) λc=>cond (ak ((U a:Int)<=4)) (ad (oc n a λe=>CZ n e) λh=>c (!h)) (c ao)
def Ie(n:Nat)(a:de):aL Int:=bH (λe ((d,c):Int×Int)=>cond (ak (c<U a.cr)) (ad (aC a.cr c) λh=>e (wr (d*h),wr (c+1))) (Y d)) n (1,0)
def vT(n:Nat)(p:bx)(a:dr)(c:bo):aL Int:=bH (λq ((m,k):Int×Int)=>cond (ak (k<U p.a7)) (ad (aC p.a7 k) λh=>cond (!decide (h.ed=a.ew)) (ad (Ie n h) λr=>q (wr (m+r),wr (k+1))) (cond (!decide ((U a.b7:Int)=U h.cr)) (Y (-1)) (bH (λw ((o,i):Int×Int)=>cond (ak (i<U a.b7)) (ad (aC a.b7 i) λx=>ad (qw n x c) λd=>ad (aC h.cr i) λe=>ad (gO n d 0 (wr (e-1))) λl=>cond (!l) (Y (-1)) (w (wr ((wr (o*e))+d),wr (i+1)))) (Y (wr (m+o)))) n (0,0)))) (Y (-1))) n (0,0)
def B4(n:Nat)(a:dr)(c:bx)(d:bo):aL Bool:=ad (vT n c a d) λe=>Y (ak (e<0))
def tE:Nat->bW->aL (List dr)
 |0,_=>al
 |n+1,e=>(cond (ak (e.aU=3)) (Y [e.dL]) (bH (λd ((c,a):(List dr)×Int)=>cond (ak (a<U e.bS)) (ad (aC e.bS a) λh=>ad (tE n h) λi=>ad (app c i) λk=>d (k,wr (a+1))) (Y c)) n ([],0)))
def NZ(n:Nat)(s:List dr)(f:dr->aL Bool):aL Int:=bH (λc (a:Int)=>cond (ak (a<U s)) (ad (aC s a) λd=>ad (f d) λe=>cond e (Y a) (c (wr (a+1)))) (Y (-1))) n 0
def GR(n:Nat)(s:List dr)(f:dr->aL Bool):aL Bool:=ad (NZ n s f) λa=>Y (ak ((0:Int)<=a))
def Hg(n:Nat)(p:bx)(s:cT)(a:bo):aL Bool:=bl (λd=>Y d) λc=>ad (vT n p s.dI a) λe=>cond (ak ((0:Int)<=e)) (ad (tE n s.cz) λh=>ad (GR n h λi=>B4 n i p a) λk=>c (!k)) (c ao)
def yk(n:Nat)(p:bx):aL ((List dz)×Bool):=bl (λH=>cond H (Y ([],ao)) (bH (λK ((m,l):(List dz)×Int)=>cond (ak (l<U p.aq)) (ad (aC p.aq l) λh=>ad (H5 n h.a6) λo=>bl (λq=>cond q (Y ([],ao)) (bH (λr ((i,c):(List dz)×Int)=>cond (ak (c<U o.1)) (ad (aC o.1 c) λd=>ad (Ep n d) λw=>cond (!w) (Y ([],ao)) (bH (λx ((k,a):(List dz)×Int)=>cond (ak (a<U h.a')) (ad (aC h.a' a) λy=>ad (Hg n p y d) λz=>cond (!z) (Y ([],ao)) (ad (lE d) λA=>ad (app k [(⟨l,a,A⟩:dz)]) λB=>x (B,wr (a+1)))) (r (k,wr (c+1)))) n (i,0))) (K (i,wr (l+1)))) n (m,0))) (λe=>cond (!o.2) (e I) (ad (gO n (U h.a') 1 4) λC=>cond (!C) (e I) (ad (GY n h.a' λL=>Bw n L h) λF=>e F)))) (Y (m,ak ((U m:Int)<=120)))) n ([],0))) λG=>ad (DX n p.a7) λQ=>cond (!Q) (G I) (G (ak ((4:Int)<U p.aq)))
def tj(n:Nat)(p:bx):aL Bool:=ad (yk n p) λa=>Y a.2
def ns(n:Nat)(p:bx)(a:Int):aL Bool:=ad (gO n a 0 (wr ((U p.aq:Int)-1))) λc=>Y c
def N9(n:Nat)(p:bx)(a c:Int):aL Bool:=bl (λe=>Y e) λd=>ad (ns n p a) λh=>cond h (ad (aC p.aq a) λi=>ad (gO n c 0 (wr ((U i.a6:Int)-1))) λk=>d k) (d ao)
def oj(n:Nat)(a:aR):aL aR:=ad (lE a.bg) λc=>Y (du c a.cv)
def wc(n:Nat)(a:dr)(change:aR->aL aR):aL dr:=bH (λe ((d,c):(List aR)×Int)=>cond (ak (c<U a.b7)) (ad (aC a.b7 c) λh=>ad (change h) λi=>ad (app d [i]) λk=>e (k,wr (c+1))) (Y (fC a.ew d))) n ([],0)
def oA:Nat->bW->(aR->aL aR)->aL bW
 |0,_,_=>al
 |n+1,e,change=>(bl (fun((q,r,w,x):bo×Int×bq×(List aR))=>bH (λa ((l,c):(List bW)×Int)=>cond (ak (c<U e.bS)) (ad (aC e.bS c) λd=>ad (oA n d change) λh=>ad (app l [h]) λi=>a (i,wr (c+1))) (Y (fz e.aU e.cA (du q r) (fC w x) l))) n ([],0)) λk=>cond (ak (e.aU=2)) (ad (change e.dp) λm=>k (m.bg,m.cv,[],[])) (cond (ak (e.aU=3)) (ad (wc n e.dL change) λo=>k ([],0,o.ew,o.b7)) (k ([],0,[],[]))))
def rV(n:Nat)(s:cT)(change:aR->aL aR):aL cT:=ad (wc n s.dI change) λa=>ad (oA n s.cz change) λc=>Y (kf a c)
def zV(n:Nat)(s:cT):aL cT:=ad (rV n s λa=>oj n a) λc=>Y c
def tK(n:Nat)(a:List aR):aL (List aR):=bH (λe ((d,c):(List aR)×Int)=>cond (ak (c<U a)) (ad (aC a c) λh=>ad (oj n h) λi=>ad (app d [i]) λk=>e (k,wr (c+1))) (Y d)) n ([],0)
def wC(n:Nat)(a:List b4):aL (List b4):=bH (λh ((d,c):(List b4)×Int)=>cond (ak (c<U a)) (ad (aC a c) λe=>ad (tK n e.bD) λi=>ad (tK n e.aO) λk=>ad (app d [(dD i k)]) λl=>h (l,wr (c+1))) (Y d)) n ([],0)
def tY(n:Nat)(p:cq):aL cq:=ad (wC n p.a6) λd=>bH (λe ((c,a):(List cT)×Int)=>cond (ak (a<U p.a')) (ad (aC p.a' a) λh=>ad (zV n h) λi=>ad (app c [i]) λk=>e (k,wr (a+1))) (Y (cV d c))) n ([],0)
def rr(n:Nat)(p:bx):aL bx:=bH (λo ((k,a):(List de)×Int)=>cond (ak (a<U p.a7)) (ad (aC p.a7 a) λl=>ad (lE l.cr) λq=>ad (app k [(sv l.ed q)]) λr=>o (r,wr (a+1))) (bH (λc ((m,d):(List cq)×Int)=>cond (ak (d<U p.aq)) (ad (aC p.aq d) λe=>ad (tY n e) λh=>ad (app m [h]) λi=>c (i,wr (d+1))) (Y (dv k m))) n ([],0))) n ([],0)
def l8(n:Nat)(p:bx)(a c:Int):aL (bx×Bool):=bl (λh=>cond h (Y ((dv [] []),ao)) (ad (rr n p) λe=>ad (aC e.aq a) λm=>Y (e,I))) λd=>ad (tj n p) λi=>cond (!i) (d I) (ad (ns n p a) λk=>cond (!k) (d I) (cond (!decide (c=(-1))) (ad (N9 n p a c) λl=>d (!l)) (d ao)))
def tm(n:Nat)(a:aR)(c:Int):aL Bool:=ad (aC a.bg c) λd=>Y (!decide (d=0))
def IH(n:Nat)(l:b4)(v:Int):aL Bool:=bl (λd=>Y d) λc=>ad (rn n l.bD λa=>tm n a v) λe=>cond e (c I) (ad (rn n l.aO λa=>tm n a v) λh=>c h)
def Hw(n:Nat)(p:bx)(x:dz):aL cT:=ad (aC p.aq x.cf) λa=>ad (aC a.a' x.stmt) λc=>Y c
def G7(n:Nat)(p:bx)(x:dz):aL (bo×Int):=ad (Hw n p x) λd=>ad (tE n d.cz) λe=>bH (λi ((h,a):bo×Int)=>cond (ak (a<U e)) (ad (aC e a) λk=>ad (vT n p k x.dS) λl=>ad (app h [l]) λm=>i (m,wr (a+1))) (ad (vT n p d.dI x.dS) λc=>Y (h,c))) n ([],0)
def r7(n:Nat)(p:bx):aL ((aL qk)×Bool):=ad (yk n p) λa=>cond (!a.2) (Y (al,ao)) (bH (λl ((h,i,c):dT×bo×Int)=>cond (ak (c<U a.1)) (ad (aC a.1 c) λm=>ad (G7 n p m) λk=>ad (app h [k.1]) λd=>ad (app i [k.2]) λe=>l (d,e,wr (c+1))) (Y (Y (⟨p,a.1,h,i⟩:qk),I))) n ([],[],0))
def Jm(n:Nat)(s:bo)(v:Int):aL Int:=bH (λc (a:Int)=>cond (ak (a<U s)) (ad (aC s a) λd=>cond (ak (v=d)) (Y a) (c (wr (a+1)))) (Y (-1))) n 0
def yR(n:Nat)(s:bo)(v:Int):aL Bool:=ad (Jm n s v) λa=>Y (ak ((0:Int)<=a))
def Hf(n:Nat)(t:qk)(a c:Int):aL Int:=bl (fun(l:Int)=>bl (fun(d:Int)=>bl (fun(h:Int)=>Y h) λe=>ad (aC t.kP a) λi=>ad (aC t.kP c) λk=>cond (ak (i=k)) (e (wr (d+4))) (e d)) λm=>ad (aC t.reads a) λq=>ad (aC t.kP c) λr=>ad (yR n q r) λw=>cond w (m (wr (l+2))) (m l)) λo=>ad (aC t.reads c) λx=>ad (aC t.kP a) λy=>ad (yR n x y) λz=>cond z (o (wr (0+1))) (o 0)
def yW(n:Nat)(t:qk):aL (List hr):=bH (λm ((k,a):(List hr)×Int)=>cond (ak (a<U t.list)) (bH (λo ((e,d):(List hr)×Int)=>cond (ak (d<U t.list)) (bl (fun(h:(List hr))=>o (h,wr (d+1))) (λl=>ad (Hf n t a d) λc=>cond (ak ((0:Int)<c)) (ad (app e [(⟨a,d,c⟩:hr)]) λi=>l i) (l e))) (m (e,wr (a+1)))) n (k,wr (a+1))) (Y k)) n ([],0)
def wb(n:Nat)(c:bo)(d:bo):aL Bool:=cond (!decide ((U c:Int)=U d)) (Y ao) (bH (λe (a:Int)=>cond (ak (a<U c)) (ad (aC c a) λh=>ad (aC d a) λi=>cond (!decide (h=i)) (Y ao) (e (wr (a+1)))) (Y I)) n 0)
def Hn(n:Nat)(x:Int):aL Bool:=Y (!decide (x=x))
def G2(n:Nat)(x y:Int):aL Int:=ad (Hn n x) λc=>ad (Hn n y) λa=>cond c (cond a (Y 0) (Y (-1))) (cond a (Y 1) (cond (ak (x<y)) (Y (-1)) (cond (ak (y<x)) (Y 1) (Y 0))))
def OO(n:Nat)(c:bo)(d:bo):aL Int:=bH (λh (a:Int)=>cond (ak (a<U c)) (ad (aC c a) λi=>cond (ak ((U d:Int)<=a)) (Y 1) (ad (aC d a) λk=>ad (G2 n i k) λe=>cond (!decide (e=0)) (Y e) (h (wr (a+1))))) (cond (ak ((U c:Int)<U d)) (Y (-1)) (Y 0))) n 0
def Ox(n:Nat)(a:Int):aL Bool:=Y (!decide (a=0))
def H6(n:Nat)(d:bo):aL Int:=ad (tc n d λa=>Ox n a) λc=>Y c
def GW(n:Nat)(t:qk)(d:Int):aL dT:=ad (yW n t) λB=>bH (λF ((l,m):dT×Int)=>cond (ak (m<U B)) (bl (fun((o,G,H,K,L,Q,R,W,X,b):dT×Int×Int×Int×Int×Int×bo×Int×Int×bo)=>F (o,wr (m+1))) (λC=>ad (aC B m) λe=>ad (aC t.list e.gi) λh=>ad (aC t.list e.gj) λa=>bl (λq=>cond q (C (l,e.gi,e.gj,e.kinds,h.cf,h.stmt,h.dS,a.cf,a.stmt,a.dS)) (bH (λr ((i,c):bo×Int)=>cond (ak (c<U a.dS)) (ad (aC a.dS c) λw=>ad (aC h.dS c) λx=>ad (app i [wr (w-x)]) λy=>r (y,wr (c+1))) (ad (app l [i]) λz=>C (z,e.gi,e.gj,e.kinds,h.cf,h.stmt,h.dS,a.cf,a.stmt,a.dS))) n ([],0))) λk=>cond (!decide (h.cf=d)) (k I) (k (!decide (a.cf=d))))) (ad (rU l) λA=>Y (i' A))) n ([],0)
def HX(n:Nat)(p:bx)(a:Int):aL dT:=ad (r7 n p) λc=>cond c.1.isSome (bl (λh=>cond h (Y []) (ad (GW n (c.1.getD default) a) λi=>Y i)) (λd=>cond (!c.2) (d I) (ad (ns n p a) λk=>d (!k)))) (bl (λl=>cond l (Y []) al) λe=>cond (!c.2) (e I) (ad (ns n p a) λm=>e (!m)))
def AK(n:Nat)(p:bx)(h:Int)(f:bo->aL bo):aL Bool:=ad (HX n p h) λl=>bH (λm ((c,i):dT×Int)=>cond (ak (i<U l)) (ad (aC c i) λd=>ad (f d) λe=>ad (l7 d e) λo=>ad (H6 n e) λk=>ad (cW c i e) λa=>cond (ak ((0:Int)<=k)) (ad (aC e k) λy=>cond (ak (y<0)) (Y ao) (m (a,wr (i+1)))) (m (a,wr (i+1)))) (Y I)) n (l,0)
def yJ(n:Nat)(d:bo)(a:Int):aL bo:=ad (aC d (wr (a+1))) λe=>ad (aC d a) λh=>ad (cW d a e) λc=>ad (aC c (wr (a+1))) λk=>ad (cW c (wr (a+1)) h) λi=>Y i
def vW(n:Nat)(l:b4)(f:aR->aL aR):aL b4:=bH (λh ((x,i):b4×Int)=>ad (l7 l.bD x.bD) λm=>ad (l7 l.aO x.aO) λo=>cond (ak (i<2)) (cond (ak (i=0)) (bH (λa ((y,k):(List aR)×Int)=>cond (ak (k<U x.bD)) (ad (aC y k) λc=>ad (f c) λd=>ad (cW y k d) λe=>a (e,wr (k+1))) (h ((dD y x.aO),wr (0+1)))) n (x.bD,0)) (cond (ak (i=1)) (bH (λa ((y,k):(List aR)×Int)=>cond (ak (k<U x.aO)) (ad (aC y k) λc=>ad (f c) λd=>ad (cW y k d) λe=>a (e,wr (k+1))) (h ((dD x.bD y),wr (1+1)))) n (x.aO,0)) al)) (Y x)) n (l,0)
def rs(n:Nat)(p:cq)(a:Int)(f:aR->aL aR):aL cq:=bH (λc ((x,k):(List b4)×Int)=>ad (l7 p.a6 x) λq=>cond (ak (k<U x)) (ad (aC x k) λd=>ad (vW n d f) λe=>ad (cW x k e) λh=>c (h,wr (k+1))) (bH (λi ((y,j):(List cT)×Int)=>ad (l7 p.a' y) λr=>cond (ak (j<U p.a')) (ad (aC y j) λl=>ad (rV n l f) λm=>ad (cW y j m) λo=>i (o,wr (j+1))) (Y (cV x y))) n (p.a',0))) n (p.a6,a)
def yI(n:Nat)(a:aR)(c:Int):aL aR:=ad (oj n a) λd=>ad (aC d.bg (wr (c+1))) λh=>ad (aC d.bg c) λi=>ad (cW d.bg c h) λe=>ad (aC e (wr (c+1))) λl=>ad (cW e (wr (c+1)) i) λk=>Y (du k d.cv)
def oo(n:Nat)(p:bx):aL (bx×Bool):=ad (tj n p) λa=>cond (!a) (Y ((dv [] []),ao)) (ad (rr n p) λc=>Y (c,I))
def HU(n:Nat)(p:bx)(c a:Int):aL (bx×Bool):=ad (l8 n p c a) λh=>cond h.2 (cond (ak (a<0)) (Y ((dv [] []),ao)) (ad (aC h.1.aq c) λd=>cond (ak ((U d.a6:Int)<=wr (a+1))) (Y ((dv [] []),ao)) (ad (aC d.a6 (wr (a+1))) λr=>ad (IH n r a) λw=>cond w (Y ((dv [] []),ao)) (ad (AK n p c λi=>yJ n i a) λx=>cond x (ad (aC d.a6 a) λy=>ad (cW d.a6 a r) λk=>ad (cW k (wr (a+1)) y) λe=>ad (cW h.1.aq c (cV e d.a')) λl=>ad (rs n (cV e d.a') (wr (a+2)) λi=>yI n i a) λm=>ad (cW l c m) λo=>ad (oo n (dv h.1.a7 o)) λq=>Y q) (Y ((dv [] []),ao)))))) (Y ((dv [] []),ao))
def IB(n:Nat)(a:aR):aL Bool:=ad (tk n a) λc=>Y (ak ((0:Int)<c))
def zW(n:Nat)(a:List aR):aL Bool:=ad (rn n a λc=>IB n c) λd=>Y (!d)
def za(n:Nat)(l:b4):aL (Int×Int×Bool):=bl (λc=>cond c (Y (0,0,ao)) (ad (aC l.bD 0) λd=>ad (aC l.aO 0) λe=>Y (d.cv,e.cv,I))) λa=>cond (!decide ((U l.bD:Int)=1)) (a I) (cond (!decide ((U l.aO:Int)=1)) (a I) (ad (zW n l.bD) λh=>cond (!h) (a I) (ad (zW n l.aO) λi=>a (!i))))
def yH(n:Nat)(d:bo)(a:Int):aL bo:=ad (aC d a) λc=>ad (cW d a (wr (0-c))) λe=>Y e
def pW(n:Nat)(a:Int):aL aR:=ad (mk 4 0) λc=>Y (du c a)
def pV(n:Nat)(v k:Int):aL aR:=ad (pW n 0) λa=>ad (aC a.bg v) λd=>ad (cW a.bg v k) λc=>Y (du c a.cv)
def vc(n:Nat)(a:aR)(k:Int)(b:aR):aL aR:=ad (oj n a) λe=>bH (λh ((d,c):bo×Int)=>cond (ak (c<U b.bg)) (ad (aC b.bg c) λi=>ad (aC d c) λl=>ad (cW d c (wr (l+(wr (k*i))))) λm=>h (m,wr (c+1))) (Y (du d (wr (e.cv+(wr (k*b.cv))))))) n (e.bg,0)
def xx(n:Nat)(a:aR)(v:Int)(b:aR):aL aR:=ad (oj n a) λc=>ad (aC c.bg v) λd=>ad (cW c.bg v 0) λe=>ad (vc n (du e c.cv) d b) λh=>Y h
def yG(n:Nat)(a:aR)(c:Int)(d:aR):aL aR:=ad (xx n a c d) λe=>Y e
def HT(n:Nat)(p:bx)(c a:Int):aL (bx×Bool):=ad (l8 n p c a) λd=>cond d.2 (cond (ak (a<0)) (Y ((dv [] []),ao)) (ad (aC d.1.aq c) λm=>ad (aC m.a6 a) λo=>ad (za n o) λe=>cond e.2.2 (ad (AK n p c λh=>yH n h a) λq=>cond q (ad (pV n a (-1)) λr=>ad (rs n m (wr (a+1)) λh=>yG n h a (du r.bg (wr ((wr (e.1+e.2.1))-1)))) λi=>ad (cW d.1.aq c i) λk=>ad (oo n (dv d.1.a7 k)) λl=>Y l) (Y ((dv [] []),ao))) (Y ((dv [] []),ao)))) (Y ((dv [] []),ao))
def Av(n:Nat)(a:Int):aL Bool:=ad (gO n a (-6) 6) λc=>Y c
def CL(n:Nat)(a:aR)(c d:Int):aL aR:=ad (pV n d 1) λe=>ad (vc n a c e) λh=>Y h
def y9(n:Nat)(a:aR)(c:Int)(d:aR):aL aR:=ad (xx n a (wr (c+1)) d) λe=>Y e
def DY(n:Nat)(p:bx)(c a d:Int):aL (bx×Bool):=ad (l8 n p c a) λh=>cond h.2 (bl (λw=>cond w (Y ((dv [] []),ao)) (ad (aC h.1.aq c) λe=>ad (aC e.a6 (wr (a+1))) λx=>ad (vW n x λi=>CL n i d a) λy=>ad (cW e.a6 (wr (a+1)) y) λr=>ad (cW h.1.aq c (cV r e.a')) λk=>ad (pV n (wr (a+1)) 1) λz=>ad (pV n a 1) λA=>ad (vc n z (wr (0-d)) A) λB=>ad (rs n (cV r e.a') (wr (a+2)) λi=>y9 n i a B) λl=>ad (cW k c l) λm=>ad (oo n (dv h.1.a7 m)) λo=>Y o)) (λq=>cond (ak (a<0)) (q I) (ad (aC h.1.aq c) λe=>cond (ak ((U e.a6:Int)<=wr (a+1))) (q I) (ad (Av n d) λC=>q (!C))))) (Y ((dv [] []),ao))
def CA(n:Nat)(a:aR)(c:Int):aL aR:=ad (pW n 1) λd=>ad (vc n a c d) λe=>Y e
def y3(n:Nat)(a:aR)(c:Int)(d:aR):aL aR:=ad (xx n a c d) λe=>Y e
def IE(n:Nat)(p:bx)(c a d:Int):aL (bx×Bool):=ad (l8 n p c a) λe=>cond e.2 (bl (λw=>cond w (Y ((dv [] []),ao)) (ad (aC e.1.aq c) λh=>ad (aC h.a6 a) λx=>ad (vW n x λi=>CA n i d) λy=>ad (cW h.a6 a y) λq=>ad (cW e.1.aq c (cV q h.a')) λk=>ad (pV n a 1) λz=>ad (rs n (cV q h.a') (wr (a+1)) λi=>y3 n i a (du z.bg (wr (0-d)))) λl=>ad (cW k c l) λm=>ad (oo n (dv e.1.a7 m)) λo=>Y o)) (λr=>cond (ak (a<0)) (r I) (ad (Av n d) λA=>r (!A)))) (Y ((dv [] []),ao))
def vp{k:Type}(l:List k)(o:Nat)(x:List k):List k:=l.take o++x.take (Nat.min (U x) (U l-o))++l.drop (o+Nat.min (U x) (U l-o))
def y2(n:Nat)(a:aR)(c:Int):aL aR:=ad (oj n a) λd=>cond (ak ((0:Int)<=wr (c+1))) (cond (ak (wr (c+1)<U d.bg)) (ad (sub a.bg c (U a.bg)) λe=>ad (aC (vp d.bg (wr (c+1)).toNat e) c) λi=>ad (cW (vp d.bg (wr (c+1)).toNat e) c 0) λh=>Y (du h d.cv)) al) al
def yU(n:Nat)(s:List b4)(i:Int)(v:List b4):aL (List b4):=cond (ak ((0:Int)<=i)) (cond (ak (i<=U s)) (app (s.take i.toNat++v) (s.drop i.toNat)) al) al
def IC(n:Nat)(p:bx)(d a c:Int):aL (bx×Bool):=ad (l8 n p d a) λh=>cond h.2 (ad (aC h.1.aq d) λk=>bl (λw=>cond w (Y ((dv [] []),ao)) (ad (aC k.a6 a) λx=>ad (za n x) λe=>cond e.2.2 (ad (rs n k a λy=>y2 n y a) λi=>ad (cW h.1.aq d i) λz=>ad (oG c) λL=>ad (pV n a c) λA=>ad (pV n a c) λB=>ad (pW n e.1) λC=>ad (pW n e.2.1) λF=>ad (aC i.a6 a) λQ=>ad (cW i.a6 a (dD [C,(du A.bg e.1)] [F,(du B.bg (wr (e.1+c)))])) λl=>ad (pW n 0) λG=>ad (pW n (wr (Int.tdiv (wr ((wr ((max 0 (wr (e.2.1-e.1)))+c))-1)) c))) λH=>ad (yU n l a [(dD [G] [H])]) λm=>ad (cW z d (cV m i.a')) λo=>ad (oo n (dv h.1.a7 o)) λq=>Y q) (Y ((dv [] []),ao)))) (λr=>cond (ak (a<0)) (r I) (cond (ak ((U k.a6:Int)=4)) (r I) (ad (gO n c 1 6) λK=>r (!K))))) (Y ((dv [] []),ao))
def Es(n:Nat)(p:bo)(q:bo):aL Bool:=ad (OO n p q) λa=>Y (ak (a<0))
def yV(n:Nat)(s:List cq)(i j:Int):aL (Nat×List cq):=cond (ak ((0:Int)<=i)) (cond (ak (i<=j)) (cond (ak (j<=U s)) (cond (ak (i=j)) (Y (U s,s)) (Y (gq s i j,lX s i j (cV [] [])))) al) al) al
def m9(n:Nat)(c:List b4)(d:List b4)(e:b4->b4->aL Bool):aL Bool:=cond (!decide ((U c:Int)=U d)) (Y ao) (bH (λh (a:Int)=>cond (ak (a<U c)) (ad (aC c a) λi=>ad (aC d a) λk=>ad (e i k) λl=>cond (!l) (Y ao) (h (wr (a+1)))) (Y I)) n 0)
def ta(n:Nat)(c:List aR)(d:List aR)(e:aR->aR->aL Bool):aL Bool:=cond (!decide ((U c:Int)=U d)) (Y ao) (bH (λh (a:Int)=>cond (ak (a<U c)) (ad (aC c a) λi=>ad (aC d a) λk=>ad (e i k) λl=>cond (!l) (Y ao) (h (wr (a+1)))) (Y I)) n 0)
def lZ(n:Nat)(a b:aR):aL Bool:=bl (λd=>Y d) λc=>ad (wb n a.bg b.bg) λe=>cond e (c (ak (a.cv=b.cv))) (c ao)
def y'(n:Nat)(x y:b4):aL Bool:=bl (λe=>Y e) λd=>ad (ta n x.bD y.bD λa c=>lZ n a c) λh=>cond h (ad (ta n x.aO y.aO λa c=>lZ n a c) λi=>d i) (d ao)
def wv(n:Nat)(a:List b4)(b:List b4):aL Bool:=ad (m9 n a b λc d=>y' n c d) λe=>Y e
def C4(n:Nat)(p:bx)(a:Int):aL (bx×Bool):=ad (l8 n p a (-1)) λe=>cond e.2 (ad (aC e.1.aq a) λc=>bl (λC=>cond C (Y ((dv [] []),ao)) (ad (r7 n p) λm=>cond m.1.isSome (ad (yW n (m.1.getD default)) λA=>bH (λF (o:Int)=>cond (ak (o<U A)) (ad (aC A o) λh=>ad (aC ((m.1.getD default).list) h.gi) λi=>ad (aC ((m.1.getD default).list) h.gj) λk=>bl (λq=>cond q (Y ((dv [] []),ao)) (F (wr (o+1)))) (λd=>cond (ak (i.cf=a)) (cond (ak (k.cf=wr (a+1))) (ad (Es n k.dS i.dS) λr=>d r) (d ao)) (d ao))) (ad (aC e.1.aq (wr (a+1))) λw=>ad (app c.a' w.a') λx=>ad (cW e.1.aq a (cV c.a6 x)) λy=>ad (yV n y (wr (a+1)) (wr (a+2))) λl=>ad (oo n (dv e.1.a7 (l.2.take l.1))) λz=>Y z)) n 0) al)) (λB=>cond (ak ((U p.aq:Int)<=wr (a+1))) (B I) (ad (aC p.aq (wr (a+1))) λG=>ad (wv n c.a6 G.a6) λH=>B (!H)))) (Y ((dv [] []),ao))
def I1(n:Nat)(s:List cT):aL (List cT):=cond s.isEmpty al (ad (app [] s) λa=>Y a)
def yT(n:Nat)(s:List cq)(i:Int)(v:List cq):aL (List cq):=cond (ak ((0:Int)<=i)) (cond (ak (i<=U s)) (app (s.take i.toNat++v) (s.drop i.toNat)) al) al
def Cb(n:Nat)(p:bx)(c a:Int):aL (bx×Bool):=ad (l8 n p c (-1)) λk=>cond k.2 (ad (aC k.1.aq c) λd=>bl (λF=>cond F (Y ((dv [] []),ao)) (ad (r7 n p) λl=>cond l.1.isSome (ad (yW n (l.1.getD default)) λB=>bH (λG (m:Int)=>cond (ak (m<U B)) (ad (aC B m) λC=>ad (aC ((l.1.getD default).list) C.gi) λh=>ad (aC ((l.1.getD default).list) C.gj) λi=>bl (λo=>cond o (Y ((dv [] []),ao)) (G (wr (m+1)))) (λe=>cond (ak (h.cf=c)) (cond (ak (i.cf=c)) (cond (ak (i.stmt<a)) (e (ak (a<=h.stmt))) (e ao)) (e ao)) (e ao))) (ad (wC n d.a6) λq=>ad (sub d.a' a (U d.a')) λr=>ad (I1 n r) λw=>ad (sub d.a' 0 a) λx=>ad (cW k.1.aq c {d with a':=x}) λy=>ad (yT n y (wr (c+1)) [(cV q w)]) λz=>ad (oo n (dv k.1.a7 z)) λA=>Y A)) n 0) al)) (λH=>ad (gO n a 1 (wr ((U d.a':Int)-1))) λK=>H (!K))) (Y ((dv [] []),ao))
def ID(n:Nat)(p:bx)(c a:Int):aL (bx×Bool):=ad (l8 n p c (-1)) λh=>cond h.2 (ad (aC h.1.aq c) λe=>cond (ak ((U e.a6:Int)=0)) (Y ((dv [] []),ao)) (ad (aC e.a6 0) λi=>ad (za n i) λk=>cond k.2.2 (ad (gO n a k.1 k.2.1) λB=>cond B (ad (tY n e) λl=>ad (aC i.aO 0) λm=>ad (cW i.aO 0 {m with cv:=a}) λo=>ad (cW e.a6 0 {i with aO:=o}) λq=>ad (cW h.1.aq c {e with a6:=q}) λr=>ad (aC l.a6 0) λd=>ad (aC d.bD 0) λw=>ad (cW d.bD 0 {w with cv:=a}) λx=>ad (cW l.a6 0 {d with bD:=x}) λy=>ad (yT n r (wr (c+1)) [(cV y l.a')]) λz=>ad (oo n (dv h.1.a7 z)) λA=>Y A) (Y ((dv [] []),ao))) (Y ((dv [] []),ao)))) (Y ((dv [] []),ao))
def Hq(n:Nat)(p:bx):aL Int:=bH (λd ((c,a):Int×Int)=>cond (ak (a<U p.a7)) (ad (aC p.a7 a) λe=>ad (Ie n e) λh=>d (wr (c+h),wr (a+1))) (Y c)) n (0,0)
def Ca(n:Nat)(t:qk)(e:Int):aL ((List Bool)×(List Bool)):=ad (Hq n t.program) λB=>ad (mk B ao) λC=>ad (Hq n t.program) λF=>ad (mk F ao) λG=>bH (λq ((r,o,h):(List Bool)×(List Bool)×Int)=>cond (ak (h<U t.list)) (bl (fun((w,x,H,K,L):(List Bool)×(List Bool)×Int×Int×bo)=>q (w,x,wr (h+1))) (λi=>ad (aC t.list h) λa=>cond (!decide (a.cf=e)) (i (r,o,a.cf,a.stmt,a.dS)) (ad (aC t.reads h) λk=>bH (λy ((c,d):(List Bool)×Int)=>cond (ak (d<U k)) (ad (aC k d) λl=>ad (aC c l) λQ=>ad (cW c l I) λz=>y (z,wr (d+1))) (ad (aC t.kP h) λm=>ad (aC o m) λR=>ad (cW o m I) λA=>i (c,A,a.cf,a.stmt,a.dS))) n (r,0)))) (Y (r,o))) n (C,G,0)
def G1(n:Nat)(p:bx)(a b:Int):aL Bool:=ad (r7 n p) λi=>cond i.1.isSome (bl (λz=>cond z (Y ao) (ad (Ca n (i.1.getD default) a) λe=>ad (Ca n (i.1.getD default) b) λh=>bH (λm (c:Int)=>cond (ak (c<U e.1)) (bl (λo=>cond o (Y ao) (m (wr (c+1)))) (λd=>ad (aC e.2 c) λq=>cond q (ad (aC h.1 c) λr=>cond r (d I) (ad (aC h.2 c) λw=>cond w (d I) (d ao))) (ad (aC h.2 c) λx=>cond x (ad (aC e.1 c) λy=>d y) (d ao)))) (Y I)) n 0)) (λk=>cond (!i.2) (k I) (ad (ns n p a) λA=>cond (!A) (k I) (ad (ns n p b) λB=>cond (!B) (k I) (k (ak (a=b))))))) (bl (λC=>cond C (Y ao) al) λl=>cond (!i.2) (l I) (ad (ns n p a) λF=>cond (!F) (l I) (ad (ns n p b) λG=>cond (!G) (l I) (l (ak (a=b))))))
def C1(n:Nat)(p:bx)(a:Int):aL (bx×Bool):=bl (λh=>cond h (Y ((dv [] []),ao)) (ad (rr n p) λc=>ad (aC c.aq (wr (a+1))) λi=>ad (aC c.aq a) λk=>ad (cW c.aq a i) λe=>ad (aC e (wr (a+1))) λo=>ad (cW e (wr (a+1)) k) λl=>Y ((dv c.a7 l),I))) λd=>cond (ak (a<0)) (d I) (cond (ak ((U p.aq:Int)<=a)) (d I) (ad (G1 n p a (wr (a+1))) λm=>d (!m)))
def He(n:Nat)(t:qk)(a:Int):aL bo:=ad (aC t.reads a) λk=>bH (λo ((l,d):bo×Int)=>cond (ak (d<U k)) (ad (aC k d) λq=>bH (λr (c:Int)=>bl (λe=>cond e (r (wr (c-1))) (ad (app l [c]) λh=>o (h,wr (d+1)))) λm=>cond (ak ((0:Int)<=c)) (ad (aC t.kP c) λi=>m (!decide (i=q))) (m ao)) n (wr (a-1))) (Y l)) n ([],0)
def HS(n:Nat)(t:qk):aL (List Bool):=ad (mk (U t.list) ao) λB=>bH (λC ((h,c):(List Bool)×Int)=>cond (ak ((0:Int)<=c)) (bl (fun(l:(List Bool))=>C (l,wr (c-1))) (λz=>bl (λm=>cond m (z h) (ad (aC h c) λF=>ad (cW h c I) λo=>ad (He n t c) λi=>bH (λq ((a,d):(List Bool)×Int)=>cond (ak (d<U i)) (bl (fun(r:(List Bool))=>q (r,wr (d+1))) (λk=>ad (aC i d) λe=>cond (ak ((0:Int)<=e)) (ad (aC a e) λG=>ad (cW a e I) λw=>k w) (k a))) (z a)) n (o,0))) λA=>ad (aC h c) λH=>cond (!H) (ad (sub t.kP (wr (c+1)) (U t.kP:Int)) λK=>ad (aC t.kP c) λx=>ad (yR n K x) λy=>A y) (A ao))) (Y h)) n (B,wr ((U t.list:Int)-1))
def Dl(n:Nat)(p:bx)(a:Int):aL (bx×Bool):=ad (r7 n p) λc=>cond c.1.isSome (bl (λx=>cond x (Y ((dv [] []),ao)) (ad (HS n (c.1.getD default)) λq=>bH (λk (i:Int)=>cond (ak (i<U q)) (ad (aC q i) λl=>bl (λm=>cond m (Y ((dv [] []),ao)) (k (wr (i+1)))) (λd=>cond l (ad (aC ((c.1.getD default).list) i) λo=>d (ak (o.cf=a))) (d ao))) (ad (rr n p) λe=>ad (yV n e.aq a (wr (a+1))) λh=>Y ((dv e.a7 (h.2.take h.1)),I))) n 0)) (λr=>cond (!c.2) (r I) (ad (ns n p a) λy=>r (!y)))) (bl (λz=>cond z (Y ((dv [] []),ao)) al) λw=>cond (!c.2) (w I) (ad (ns n p a) λA=>w (!A)))
def qq(n:Nat)(a:Int):aL bW:=Y (fz 1 a (du [] 0) (fC [] []) [])
def kI(n:Nat)(e:bW)(a:Int):aL Bool:=bl (λd=>Y d) λc=>cond (ak (e.aU=1)) (c (ak (e.cA=a))) (c ao)
def tC:Nat->bW->aL bW
 |0,_=>al
 |n+1,e=>(bl (λR=>cond R (ad (qq n e.dp.cv) λW=>Y W) (ad (uY n e.aU) λX=>cond (!X) (Y e) (ad (aC e.bS 0) λb=>ad (tC n b) λa=>ad (aC e.bS 1) λf=>ad (tC n f) λc=>bl (λo=>cond o (bl (fun(l:Int)=>ad (gO n l 0 99) λq=>cond q (ad (qq n l) λr=>Y r) (Y (fz e.aU 0 (du [] 0) (fC [] []) [a,c]))) (λi=>cond (ak (e.aU=5)) (i (wr (a.cA-c.cA))) (cond (ak (e.aU=6)) (i (wr (a.cA*c.cA))) (i (wr (a.cA+c.cA)))))) (bl (λw=>cond w (Y a) (bl (λx=>cond x (Y c) (bl (λy=>cond y (ad (qq n 0) λz=>Y z) (Y (fz e.aU 0 (du [] 0) (fC [] []) [a,c]))) λk=>cond (ak (e.aU=6)) (ad (kI n a 0) λA=>cond A (k I) (ad (kI n c 0) λB=>k B)) (k ao))) λd=>cond (ak (e.aU=4)) (ad (kI n a 0) λC=>cond C (d I) (cond (ak (e.aU=6)) (ad (kI n a 1) λF=>d F) (d ao))) (cond (ak (e.aU=6)) (ad (kI n a 1) λG=>d G) (d ao)))) λh=>cond (!(ak (e.aU=6))) (ad (kI n c 0) λH=>cond H (h I) (cond (ak (e.aU=6)) (ad (kI n c 1) λK=>h K) (h ao))) (cond (ak (e.aU=6)) (ad (kI n c 1) λL=>h L) (h ao)))) λm=>cond (ak (a.aU=1)) (m (ak (c.aU=1))) (m ao)))) λQ=>cond (ak (e.aU=2)) (ad (tk n e.dp) λg=>cond (ak (g=0)) (Q (ak ((0:Int)<=e.dp.cv))) (Q ao)) (Q ao))
def xk(n:Nat)(s:cT):aL cT:=ad (zV n s) λa=>ad (tC n a.cz) λc=>Y (kf a.dI c)
def HW(n:Nat)(p:bx):aL (bx×Bool):=ad (tj n p) λk=>cond (!k) (Y ((dv [] []),ao)) (ad (rr n p) λh=>bH (λl ((i,a):(List cq)×Int)=>cond (ak (a<U h.aq)) (ad (aC i a) λc=>bH (λm ((d,e):(List cT)×Int)=>cond (ak (e<U c.a')) (ad (aC d e) λo=>ad (xk n o) λq=>ad (cW d e q) λr=>m (r,wr (e+1))) (ad (l7 c.a' d) λx=>ad (cW i a (cV c.a6 d)) λw=>l (w,wr (a+1)))) n (c.a',0)) (Y ((dv h.a7 i),I))) n (h.aq,0))
def tO(n:Nat)(p:bx)(s:e7):aL (bx×Bool):=ad (wD n s) λw=>cond (!w) (Y ((dv [] []),ao)) (cond (ak (s.aU=1)) (ad (HU n p s.cf s.a) λh=>Y (h.1,h.2)) (cond (ak (s.aU=2)) (ad (HT n p s.cf s.a) λi=>Y (i.1,i.2)) (cond (ak (s.aU=3)) (ad (DY n p s.cf s.a s.b) λk=>Y (k.1,k.2)) (cond (ak (s.aU=4)) (ad (IE n p s.cf s.a s.b) λl=>Y (l.1,l.2)) (cond (ak (s.aU=5)) (ad (IC n p s.cf s.a s.b) λm=>Y (m.1,m.2)) (cond (ak (s.aU=6)) (ad (C4 n p s.cf) λo=>Y (o.1,o.2)) (cond (ak (s.aU=7)) (ad (Cb n p s.cf s.a) λq=>Y (q.1,q.2)) (cond (ak (s.aU=8)) (ad (ID n p s.cf s.a) λr=>Y (r.1,r.2)) (cond (ak (s.aU=9)) (ad (C1 n p s.cf) λc=>Y (c.1,c.2)) (cond (ak (s.aU=10)) (ad (Dl n p s.cf) λd=>Y (d.1,d.2)) (ad (HW n p) λe=>Y (e.1,e.2))))))))))))
def Cq(n:Nat)(c:Int)(a:bq):aL bq:=cond (ak (c<0)) (ad (cat a [45]) λd=>Y d) (cond (!decide (a=[])) (ad (cat a [43]) λe=>Y e) (Y a))
def y8(n:Nat)(a:aR):aL bq:=bH (λB ((i,d):bq×Int)=>cond (ak (d<U a.bg)) (bl (fun(k:bq)=>B (k,wr (d+1))) (λy=>ad (aC a.bg d) λc=>cond (ak (c=0)) (y i) (ad (Cq n c i) λz=>bl (fun(l:bq)=>ad (sub [105,106,107,108] d (wr (d+1))) λm=>ad (cat l m) λo=>y o) λA=>cond (ak ((1:Int)<max c (wr (0-c)))) (ad (oC (max c (wr (0-c)))) λC=>ad (cat C [42]) λF=>ad (cat z F) λq=>A q) (A z)))) (bl (fun(e:bq)=>cond (ak (e=[])) (Y [48]) (Y e)) λh=>cond (!decide (a.cv=0)) (ad (Cq n a.cv i) λr=>ad (oC (max a.cv (wr (0-a.cv)))) λw=>ad (cat r w) λx=>h x) (h i))) n ([],0)
def y1(n:Nat)(a:List aR):aL bq:=bH (λe ((d,c):gS×Int)=>cond (ak (c<U a)) (ad (aC a c) λh=>ad (y8 n h) λi=>ad (app d [i]) λk=>e (k,wr (c+1))) (ad (Ct d [44]) λl=>Y l)) n ([],0)
def DV(n:Nat)(a:List b4):aL bq:=bH (λk ((h,c):bq×Int)=>cond (ak (c<U a)) (ad (aC a c) λi=>ad (y1 n i.bD) λl=>ad (cat [102,111,114,32] l) λm=>ad (cat m [32]) λo=>ad (y1 n i.aO) λq=>ad (cat o q) λr=>ad (cat r [10]) λd=>ad (cat h d) λe=>k (e,wr (c+1))) (Y h)) n ([],0)
def CI(n:Nat)(a:dr):aL bq:=ad (cat a.ew [91]) λc=>ad (y1 n a.b7) λd=>ad (cat c d) λe=>ad (cat e [93]) λh=>Y h
def tB:Nat->bW->aL bq
 |0,_=>al
 |n+1,e=>(cond (ak (e.aU=1)) (ad (oC e.cA) λk=>Y k) (cond (ak (e.aU=2)) (ad (y8 n e.dp) λl=>ad (cat [123] l) λm=>ad (cat m [125]) λo=>Y o) (cond (ak (e.aU=3)) (ad (CI n e.dL) λq=>Y q) (ad (aC e.bS 0) λr=>ad (tB n r) λw=>ad (cat [40] w) λx=>ad (sub [43,45,42] (wr (e.aU-4)) (wr ((wr (e.aU-4))+1))) λy=>ad (cat x y) λa=>ad (aC e.bS 1) λc=>ad (tB n c) λd=>ad (cat a d) λh=>ad (cat h [41]) λi=>Y i))))
def Dt(n:Nat)(s:cT):aL bq:=ad (CI n s.dI) λa=>ad (cat a [61]) λc=>ad (tB n s.cz) λd=>ad (cat c d) λe=>Y e
def y0(n:Nat)(p:bx):aL bq:=bH (λQ ((K,i):bq×Int)=>cond (ak (i<U p.a7)) (ad (aC p.a7 i) λk=>ad (cat [97,114,114,97,121,32] k.ed) λR=>ad (cat K R) λW=>bH (λX ((L,l):bq×Int)=>cond (ak (l<U k.cr)) (ad (aC k.cr l) λm=>ad (oC m) λo=>ad (cat [32] o) λq=>ad (cat L q) λr=>X (r,wr (l+1))) (ad (cat L [10]) λw=>Q (w,wr (i+1)))) n (W,0)) (bH (λx ((e,a):bq×Int)=>cond (ak (a<U p.aq)) (ad (aC p.aq a) λc=>ad (DV n c.a6) λy=>ad (cat [112,97,114,116,10] y) λz=>ad (cat e z) λA=>bH (λB ((h,d):bq×Int)=>cond (ak (d<U c.a')) (ad (aC c.a' d) λC=>ad (Dt n C) λF=>ad (cat F [10]) λG=>ad (cat h G) λH=>B (H,wr (d+1))) (x (h,wr (a+1)))) n (A,0)) (Y e)) n (K,0))) n ([112,114,111,103,114,97,109,10],0)
def Cg(n:Nat)(p:bx):aL bq:=ad (tj n p) λa=>cond (!a) (Y []) (ad (y0 n p) λc=>Y c)
def C0(n:Nat)(a:Int):aL Bool:=ad (zX n a) λc=>Y (!c)
def zZ(n:Nat)(s:e7):aL Bool:=bl (λc=>Y c) λa=>ad (wD n s) λd=>cond d (ad (tN n s) λe=>ad (oc n e λh=>C0 n h) λi=>a (!i)) (a ao)
def CY(n:Nat):aL gS:=Y [[105,110,116,101,114,99,104,97,110,103,101],[114,101,118,101,114,115,101],[115,107,101,119],[115,104,105,102,116],[115,116,114,105,112],[102,117,115,101],[100,105,115,116,114,105,98,117,116,101],[115,112,108,105,116],[115,119,97,112],[100,114,111,112],[102,111,108,100]]
def Du(n:Nat)(s:e7):aL bq:=ad (CY n) λk=>ad (aC k (wr (s.aU-1))) λl=>ad (tN n s) λm=>ad (r1 n s.aU) λo=>ad (sub m 0 o) λh=>bH (λq ((i,a):bq×Int)=>cond (ak (a<U h)) (ad (aC h a) λr=>ad (oC r) λc=>ad (cat [32] c) λd=>ad (cat i d) λe=>q (e,wr (a+1))) (Y i)) n (l,0)
def HV(n:Nat)(a:List e7):aL bq:=bH (λk ((e,c):bq×Int)=>cond (ak (c<U a)) (ad (aC a c) λh=>bl (λl=>cond l (Y []) (ad (Du n h) λm=>ad (cat m [10]) λo=>ad (cat e o) λd=>k (d,wr (c+1)))) (λi=>cond (ak ((12:Int)<U a)) (i I) (ad (zZ n h) λq=>i (!q)))) (Y e)) n ([],0)
def N1(n:Nat)(c:List de)(d:List de)(e:de->de->aL Bool):aL Bool:=cond (!decide ((U c:Int)=U d)) (Y ao) (bH (λh (a:Int)=>cond (ak (a<U c)) (ad (aC c a) λi=>ad (aC d a) λk=>ad (e i k) λl=>cond (!l) (Y ao) (h (wr (a+1)))) (Y I)) n 0)
def N7(n:Nat)(c:List cq)(d:List cq)(e:cq->cq->aL Bool):aL Bool:=cond (!decide ((U c:Int)=U d)) (Y ao) (bH (λh (a:Int)=>cond (ak (a<U c)) (ad (aC c a) λi=>ad (aC d a) λk=>ad (e i k) λl=>cond (!l) (Y ao) (h (wr (a+1)))) (Y I)) n 0)
def Cf(n:Nat)(x y:de):aL Bool:=bl (λc=>Y c) λa=>cond (ak (x.ed=y.ed)) (ad (wb n x.cr y.cr) λd=>a d) (a ao)
def N6(n:Nat)(c:List cT)(d:List cT)(e:cT->cT->aL Bool):aL Bool:=cond (!decide ((U c:Int)=U d)) (Y ao) (bH (λh (a:Int)=>cond (ak (a<U c)) (ad (aC c a) λi=>ad (aC d a) λk=>ad (e i k) λl=>cond (!l) (Y ao) (h (wr (a+1)))) (Y I)) n 0)
def N8(n:Nat)(c:List bW)(d:List bW)(e:bW->bW->aL Bool):aL Bool:=cond (!decide ((U c:Int)=U d)) (Y ao) (bH (λh (a:Int)=>cond (ak (a<U c)) (ad (aC c a) λi=>ad (aC d a) λk=>ad (e i k) λl=>cond (!l) (Y ao) (h (wr (a+1)))) (Y I)) n 0)
def CJ(n:Nat)(a b:dr):aL Bool:=bl (λd=>Y d) λc=>cond (ak (a.ew=b.ew)) (ad (ta n a.b7 b.b7 λe h=>lZ n e h) λi=>c i) (c ao)
def tA:Nat->bW->bW->aL Bool
 |0,_,_=>al
 |n+1,a,b=>(bl (λd=>Y d) λc=>cond (ak (a.aU=b.aU)) (cond (ak (a.cA=b.cA)) (ad (lZ n a.dp b.dp) λe=>cond e (ad (CJ n a.dL b.dL) λh=>cond h (ad (N8 n a.bS b.bS λi k=>tA n i k) λl=>c l) (c ao)) (c ao)) (c ao)) (c ao))
def Dk(n:Nat)(a b:cT):aL Bool:=bl (λd=>Y d) λc=>ad (CJ n a.dI b.dI) λe=>cond e (ad (tA n a.cz b.cz) λh=>c h) (c ao)
def Ce(n:Nat)(x y:cq):aL Bool:=bl (λc=>Y c) λa=>ad (wv n x.a6 y.a6) λd=>cond d (ad (N6 n x.a' y.a' λe h=>Dk n e h) λi=>a i) (a ao)
def CB(n:Nat)(a b:bx):aL Bool:=bl (λh=>Y h) λe=>ad (N1 n a.a7 b.a7 λc d=>Cf n c d) λi=>cond i (ad (N7 n a.aq b.aq λc d=>Ce n c d) λk=>e k) (e ao)
def p9(n:Nat)(s:bq):aL bq:=ad (cat s [10]) λa=>Y a
def S6(n:Nat)(a:List Bool):aL bo:=bH (λh ((d,c):bo×Int)=>cond (ak (c<U a)) (bl (fun(i:bo)=>h (i,wr (c+1))) (λe=>ad (aC a c) λk=>cond k (ad (app d [c]) λl=>e l) (e d))) (Y d)) n ([],0)
def CC(n:Nat)(a:bq):aL (aR×Bool):=ad (pW n 0) λj=>cond (ak ((100:Int)<U a)) (Y ((du [] 0),ao)) (bH (λp ((i,l,k):bo×Int×bq)=>cond (!decide (k=[])) (bl (fun((c,m):bq×Int)=>ad (Cs c [43,45]) λo=>bl (fun(q:Int)=>ad (sub c 0 q) λr=>ad (sub c q (U c)) λw=>ad (Cu r [48,49,50,51,52,53,54,55,56,57,42]) λd=>bl (fun(x:Int)=>ad (Ha [105,106,107,108] d) λe=>cond (ak (d=[])) (p (i,wr (l+(wr (m*x))),w)) (bl (λG=>cond G (ad (aC i e) λH=>ad (cW i e (wr (H+(wr (m*x))))) λK=>p (K,l,w)) (Y ((du [] 0),ao))) λy=>cond (ak ((U d:Int)=1)) (y (ak ((0:Int)<=e))) (y ao))) λz=>ad (y5 r d) λL=>ad (y5 L [42]) λA=>cond (!decide (A=[])) (ad (nC A) λh=>cond h.2 (Y ((du [] 0),ao)) (cond (ak ((1000:Int)<h.1)) (Y ((du [] 0),ao)) (z h.1))) (z 1)) λB=>cond (ak (o<0)) (B (U c)) (B o)) (λs=>bl (λQ=>cond Q (bl (fun(R:Int)=>ad (sub k 1 (U k)) λW=>s (W,R)) (λC=>ad (aC k 0) λX=>cond (ak ((X.toNat:Int)=45)) (C (-1)) (C 1))) (s (k,1))) λt=>ad (aC k 0) λu=>cond (ak ((u.toNat:Int)=43)) (t I) (t (ak ((u.toNat:Int)=45))))) (bl (λb=>cond b (Y ((du [] 0),ao)) (Y ((du i l),I))) λF=>ad (vX n (du i l)) λf=>cond (!f) (F I) (ad (y8 n (du i l)) λg=>F (!decide (g=a))))) n (j.bg,j.cv,a))
def yZ(n:Nat)(a:bq):aL ((List aR)×Bool):=ad (ma a [44]) λh=>bH (λl ((c,d):(List aR)×Int)=>cond (ak (d<U h)) (ad (aC h d) λm=>ad (CC n m) λi=>bl (λo=>cond o (Y ([],ao)) (ad (app c [i.1]) λe=>l (e,wr (d+1)))) (λk=>cond (!i.2) (k I) (k (ak ((U c:Int)=2))))) (Y (c,I))) n ([],0)
def DU(n:Nat)(a:bq):aL (b4×Bool):=ad (ma a [32]) λc=>bl (λl=>cond l (Y ((dD [] []),ao)) (ad (aC c 1) λm=>ad (yZ n m) λe=>ad (aC c 2) λo=>ad (yZ n o) λh=>bl (λd=>Y ((dD e.1 h.1),d)) λi=>cond e.2 (i h.2) (i ao))) λk=>cond (!decide ((U c:Int)=3)) (k I) (ad (aC c 0) λq=>k (!decide (q=[102,111,114])))
def yY(n:Nat)(a:lo):aL UInt8:=bl (λd=>cond d (Y (0:UInt8)) (ad (aC a.s 0) λe=>Y e)) λc=>cond a.bad (c I) (c (ak (a.s=[])))
def tJ(n:Nat)(a:lo):aL (UInt8×lo):=ad (yY n a) λc=>cond (ak ((c.toNat:Int)=0)) (Y ((0:UInt8),(nh a.s I))) (ad (sub a.s 1 (U a.s)) λd=>Y (c,(nh d a.bad)))
def Cz(n:Nat)(a:lo)(b:UInt8):aL (bq×lo):=ad (pZ a.s [b]) λc=>bl (λe=>Y (c.1,(nh c.2.1 e))) λd=>cond a.bad (d I) (d (!c.2.2))
def yX(n:Nat)(a:lo)(b:UInt8):aL lo:=ad (tJ n a) λc=>cond (!decide ((c.1.toNat:Int)=(b.toNat:Int))) (Y (nh c.2.s I)) (Y c.2)
def Cd(n:Nat)(a:lo):aL (dr×lo):=ad (tJ n a) λd=>ad (yX n d.2 (91:UInt8)) λi=>ad (Cz n i (93:UInt8)) λc=>ad (yZ n c.1) λe=>bl (λk=>Y ((fC [d.1] e.1),(nh c.2.s k))) λh=>cond c.2.bad (h I) (h (!e.2))
def tD:Nat->lo->Int->aL (bW×lo)
 |0,_,_=>al
 |n+1,a,c=>(bl (λi=>ad (yY n (nh a.s i)) λk=>cond (ak ((k.toNat:Int)=0)) (Y ((fz 0 0 (du [] 0) (fC [] []) []),(nh a.s I))) (bl (λb=>cond b (bH (λf (d:Int)=>bl (λB=>cond B (f (wr (d+1))) (ad (sub a.s 0 d) λC=>ad (nC C) λe=>cond e.2 (ad (sub a.s d (U a.s)) λF=>Y ((fz 1 e.1 (du [] 0) (fC [] []) []),(nh F i))) (ad (sub a.s d (U a.s)) λG=>Y ((fz 1 e.1 (du [] 0) (fC [] []) []),(nh G i))))) λA=>cond (ak (d<U a.s)) (cond (ak (d<3)) (ad (aC a.s d) λR=>cond (ak ((48:Int)<=(R.toNat:Int))) (A (ak ((R.toNat:Int)<=57))) (A ao)) (A ao)) (A ao)) n 0) (cond (ak ((k.toNat:Int)=123)) (ad (tJ n (nh a.s i)) λH=>ad (Cz n H.2 (125:UInt8)) λh=>ad (CC n h.1) λl=>bl (λK=>Y ((fz 2 0 l.1 (fC [] []) []),(nh h.2.s K))) (λm=>cond h.2.bad (m I) (m (!l.2)))) (cond (ak ((k.toNat:Int)=40)) (ad (tJ n (nh a.s i)) λL=>ad (tD n L.2 (wr (c+1))) λo=>ad (tJ n o.2) λq=>ad (Hb [43,45,42] q.1) λr=>ad (tD n q.2 (wr (c+1))) λw=>ad (yX n w.2 (41:UInt8)) λx=>bl (λQ=>Y ((fz (wr (4+r)) 0 (du [] 0) (fC [] []) [o.1,w.1]),(nh x.s Q))) (λy=>cond x.bad (y I) (y (ak (r<0))))) (ad (Cd n (nh a.s i)) λz=>Y ((fz 3 0 (du [] 0) z.1 []),z.2))))) λW=>cond (ak ((48:Int)<=(k.toNat:Int))) (W (ak ((k.toNat:Int)<=57))) (W ao))) λX=>cond (ak ((5:Int)<c)) (X I) (X a.bad))
def EW(n:Nat)(s:cT):aL Bool:=ad (C2 n s 4) λa=>Y a
def IF(n:Nat)(a:bq):aL (cT×Bool):=cond (ak ((2000:Int)<U a)) (Y ((kf (fC [] []) (fz 0 0 (du [] 0) (fC [] []) [])),ao)) (ad (Cd n (nh a ao)) λd=>ad (yX n d.2 (61:UInt8)) λh=>ad (tD n h 1) λc=>bl (λi=>cond i (Y ((kf (fC [] []) (fz 0 0 (du [] 0) (fC [] []) [])),ao)) (Y ((kf d.1 c.1),I))) λe=>cond c.2.bad (e I) (cond (!decide (c.2.s=[])) (e I) (ad (EW n (kf d.1 c.1)) λk=>cond (!k) (e I) (ad (Dt n (kf d.1 c.1)) λl=>e (!decide (l=a))))))
def pK(n:Nat)(p:bx)(a:bq):aL (Bool×bx):=ad (pZ a [32]) λq=>cond (ak (q.1=[97,114,114,97,121])) (ad (ma a [32]) λi=>bl (λR=>cond R (Y (ao,p)) (ad (aC i 1) λW=>ad (sub i 2 (U i)) λL=>bH (λr ((Q,w):bo×Int)=>cond (ak (w<U L)) (ad (aC L w) λx=>ad (nC x) λk=>cond k.2 (Y (ao,p)) (ad (app Q [k.1]) λy=>r (y,wr (w+1)))) (ad (app p.a7 [(sv W Q)]) λc=>Y (I,(dv c p.aq)))) n ([],0))) (λz=>cond (ak ((U i:Int)<2)) (z I) (cond (ak ((4:Int)<U i)) (z I) (z (ak ((U p.a7:Int)=4)))))) (cond (ak (q.1=[112,97,114,116])) (ad (app p.aq [(cV [] [])]) λl=>Y (ak ((U l:Int)<=4),(dv p.a7 l))) (cond (ak (q.1=[102,111,114])) (ad (DU n a) λc=>bl (λA=>cond A (Y (ao,p)) (ad (aC p.aq (wr ((U p.aq:Int)-1))) λm=>ad (app m.a6 [c.1]) λd=>ad (cW p.aq (wr ((U p.aq:Int)-1)) (cV d m.a')) λB=>Y (I,(dv p.a7 B)))) (λe=>cond (!c.2) (e I) (cond (ak (wr ((U p.aq:Int)-1)<0)) (e I) (ad (aC p.aq (wr ((U p.aq:Int)-1))) λC=>e (ak ((U C.a6:Int)=4)))))) (ad (IF n a) λd=>bl (λF=>cond F (Y (ao,p)) (ad (aC p.aq (wr ((U p.aq:Int)-1))) λo=>ad (app o.a' [d.1]) λG=>ad (cW p.aq (wr ((U p.aq:Int)-1)) (cV o.a6 G)) λH=>Y (I,(dv p.a7 H)))) λh=>cond (!d.2) (h I) (cond (ak (wr ((U p.aq:Int)-1)<0)) (h I) (ad (aC p.aq (wr ((U p.aq:Int)-1))) λK=>h (ak ((U K.a':Int)=4)))))))
def Hy(n:Nat)(a:bq):aL (bx×Bool):=ad (ma a [10]) λd=>bl (λy=>cond y (Y ((dv [] []),ao)) (ad (sub d 1 (wr ((U d:Int)-1))) λx=>bH (λk ((h,i,l):(List de)×(List cq)×Int)=>cond (ak (l<U x)) (ad (aC x l) λm=>ad (pK n (dv h i) m) λc=>cond (!c.1) (Y ((dv [] []),ao)) (k (c.2.a7,c.2.aq,wr (l+1)))) (bl (λo=>cond o (Y ((dv [] []),ao)) (Y ((dv h i),I))) λe=>ad (tj n (dv h i)) λq=>cond (!q) (e I) (ad (y0 n (dv h i)) λr=>e (!decide (r=a))))) n ([],[],0))) λw=>ad (aC d 0) λz=>cond (!decide (z=[112,114,111,103,114,97,109])) (w I) (ad (aC d (wr ((U d:Int)-1))) λA=>cond (!decide (A=[])) (w I) (w (ak (wr ((U d:Int)-1)<1))))
def vw(n:Nat)(x:nj)(p:bx)(a:Bool)(c:bq):aL (bq×nj):=cond (!a) (ad (p9 n c) λd=>Y (d,x)) (ad (p9 n [111,107]) λe=>Y (e,(⟨p,x.text,x.collect⟩:nj)))
def Cp(n:Nat)(s:gS)(v:bq):aL Int:=bH (λc (a:Int)=>cond (ak (a<U s)) (ad (aC s a) λd=>cond (ak (v=d)) (Y a) (c (wr (a+1)))) (Y (-1))) n 0
def wq(n:Nat)(h:bq):aL (e7×Bool):=ad (ma h [32]) λo=>ad (CY n) λA=>ad (aC o 0) λB=>ad (Cp n A B) λk=>bl (λC=>cond C (Y ((⟨0,0,0,0⟩:e7),ao)) (ad (sub o 1 (U o)) λy=>bH (λi ((l,c,d,a):Int×Int×Int×Int)=>cond (ak (a<U y)) (ad (aC y a) λq=>ad (nC q) λe=>cond e.2 (Y ((⟨0,0,0,0⟩:e7),ao)) (cond (ak (a=0)) (i (e.1,c,d,wr (a+1))) (cond (ak (a=1)) (i (l,e.1,d,wr (a+1))) (cond (ak (a=2)) (i (l,c,e.1,wr (a+1))) al)))) (bl (λr=>Y ((⟨wr (1+k),l,c,d⟩:e7),r)) λm=>ad (zZ n (⟨wr (1+k),l,c,d⟩:e7)) λw=>cond w (ad (Du n (⟨wr (1+k),l,c,d⟩:e7)) λx=>m (ak (x=h))) (m ao))) n (0,0,0,0))) λz=>cond (ak (wr (1+k)<1)) (z I) (ad (r1 n (wr (1+k))) λF=>z (!decide (wr ((U o:Int)-1)=F)))
def yj(n:Nat)(x:nj)(a:bq):aL (bq×nj):=cond (ak (a=[98,101,103,105,110])) (ad (p9 n [112,114,111,103,114,97,109]) λc=>Y ([],(⟨x.p,c,I⟩:nj))) (cond (ak (a=[115,104,111,119])) (ad (y0 n x.p) λd=>ad (p9 n [101,110,100]) λe=>ad (cat d e) λh=>Y (h,x)) (cond (ak (a=[99,111,117,110,116])) al (cond (ak (a=[108,105,118,101])) al (cond (ak (a=[100,101,97,100])) al (cond (ak (a=[105,110,112,117,116,115])) al (cond (ak (a=[111,114,100,101,114])) al (ad (p9 n [119,104,97,116]) λi=>Y (i,x))))))))
def od(n:Nat)(x:nj)(s:bq):aL (bq×nj):=cond x.collect (cond (!decide (s=[101,110,100])) (ad (p9 n s) λz=>ad (cat x.text z) λA=>Y ([],(⟨x.p,A,x.collect⟩:nj))) (ad (Hy n x.text) λm=>ad (vw n (⟨x.p,x.text,ao⟩:nj) m.1 m.2 [119,104,97,116]) λo=>Y (o.1,o.2))) (ad (wq n s) λq=>cond q.2 (ad (tO n x.p q.1) λr=>ad (vw n x r.1 r.2 [110,111]) λw=>Y (w.1,w.2)) (ad (pZ s [32]) λd=>cond (!d.2.2) (ad (yj n x d.1) λy=>Y (y.1,y.2)) (ad (nC d.2.1) λa=>cond a.2 (ad (p9 n [119,104,97,116]) λe=>Y (e,x)) (bl (λh=>cond h (ad (p9 n [119,104,97,116]) λi=>Y (i,x)) al) λc=>ad (gO n a.1 0 99) λk=>cond (!k) (c I) (ad (oC a.1) λl=>c (!decide (l=d.2.1)))))))
def C3(n:Nat)(a:bq):aL bq:=cond (ak ((20000:Int)<U a)) al (ad (ma a [10]) λi=>bH (λk ((c,l,d):bq×nj×Int)=>cond (ak (d<U i)) (ad (aC i d) λm=>cond (ak (m=[])) (k (c,l,wr (d+1))) (cond (ak ((200:Int)<=d)) al (cond (ak ((40000:Int)<U c)) al (ad (od n l m) λe=>ad (app c e.1) λh=>k (h,e.2,wr (d+1)))))) (cond (ak (c=[])) al (Y c))) n ([],(⟨(dv [] []),[],ao⟩:nj),0))
def t3(n:Nat)(a:bq):aL Bool:=cond (ak ((1048576:Int)<U a)) (Y I) (ad (Hp n a) λc=>ad (tO n c.1 c.2) λd=>ad (zf n c.1 c.2) λh=>ad (Cg n c.1) λi=>ad (HV n [c.2]) λF=>bl (λH=>cond H (bl (λl=>Y l) (λG=>cond (d.2==h.2) (ad (CB n d.1 h.1) λm=>G m) (G ao))) (ad (sub i 8 (U i)) λo=>ad (cat [98,101,103,105,110,10] o) λq=>ad (cat q [101,110,100,10]) λr=>ad (cat r F) λw=>ad (cat w [115,104,111,119,10]) λx=>ad (C3 n x) λe=>cond d.2 (ad (Cg n d.1) λy=>ad (cat [111,107,10,111,107,10] y) λz=>ad (cat z [101,110,100,10]) λA=>Y (ak (e=A))) (ad (cat [111,107,10,110,111,10] i) λB=>ad (cat B [101,110,100,10]) λC=>Y (ak (e=C))))) λk=>cond (!(d.2==h.2)) (k I) (ad (CB n d.1 h.1) λK=>cond (!K) (k I) (cond (ak (i=[])) (k I) (k (ak (F=[]))))))
end Go.Lift
