/- Tools. -/
import Derived.Test.YteifkndfpnkalabGreatXLiftSq
import Derived.Lib.SplitLaws
namespace Go.Lift
open Go
open Option renaming some -> aa, none -> ak, bind -> bI
open Bool renaming true -> ab, false -> al
open Decidable renaming decide -> aj
open List renaming map -> bj
section
theorem bf{n:Int}(h: -9223372036854775808<=n/\n<=9223372036854775807):wr n=n:=IntWalk.i64_in n O
def ad{k:Type}(o:Option k)(Q:k->Prop):Prop:= ∃r,o=aa r/\Q r
section
variable {α β R r5:Type}{Q:R->Prop}
theorem ad.some{r:R}(h:Q r):ad (some r) Q:=⟨r,rfl,h⟩
theorem ad.bind{o:Option α}{f:α->Option R}(h:ad o λx=>ad (f x) Q):ad (bI o f) Q:=by obtain⟨x,rfl,r,a,b⟩:=h;exact⟨r,a,b⟩
theorem hE{o:Option α}{f:α->Option R}{P:α->Prop}(h:ad o P)(k: ∀x,P x->ad (f x) Q):ad (bI o f) Q:=by obtain⟨x,rfl,h⟩:=h;exact k x h
theorem ag{o:Option α}{f:α->Option R}{x:α}(h:o=Option.some x)(k:ad (f x) Q):ad (bI o f) Q:=by subst h;exact k
theorem ad.mono{o:Option R}{P:R->Prop}(h:ad o P)(k: ∀x,P x->Q x):ad o Q:=by obtain⟨x,rfl,h⟩:=h;exact⟨x,rfl,k x h⟩
theorem ad.cond{c:Bool}{A B:Option R}(a:c=ab->ad A Q)(b:c=al->ad B Q):ad (bif c then A else B) Q:=by
 cases c with
 |true=>exact a rfl
 |false=>exact b rfl
variable {p:Prop}{k:Type}{l:List k}
theorem aV[Decidable p]{A B:Option R}(a:p->ad A Q)(b: ¬p->ad B Q):ad (bif decide p then A else B) Q:=
 ad.cond (λh=>a (e4 h)) λh=>b (of_decide_eq_false h)
theorem dV[Decidable p]{A B:Option R}(a: ¬p->ad A Q)(b:p->ad B Q):ad (bif !decide p then A else B) Q:=
 ad.cond (λh=>a (by simpa using h)) λh=>b (by simpa using h)
theorem ad.aQ{a:r5->Option R}{t:(r5->Option R)->Option R}(P:r5->Prop)(b: ∀j,(∀z,P z->ad (j z) Q)->ad (t j) Q)(c: ∀z,P z->ad (a z) Q):ad (aQ a t) Q:=b a c
theorem ad.loop{a:(r5->Option R)->r5->Option R}(I:r5->Prop)(mg :r5->Nat)
  (h: ∀b x,I x->(∀y,I y-> mg y< mg x->ad (b y) Q)->ad (a b x) Q): ∀(n:Nat) (x:r5),I x-> mg x<n->ad (bA a n x) Q
 |0,_,_,c=>br c (o6 _)
 |n+1,x,d,c=>h _ x d λy e i=>ad.loop I mg h n y e O
theorem ad.eq{o:Option R}{r:R}(h:ad o λx=>x=r):o=Option.some r:=by obtain⟨x,rfl,rfl⟩:=h;rfl
theorem ad.of{o:Option R}{r:R}(h:o=Option.some r)(k:Q r):ad o Q:=⟨r,h,k⟩
end
variable {p:Prop}{k:Type}{l:List k}
theorem bq{i:Nat}{x:k}(h:l[i]? =aa x):aB l (i:Int)=aa x:=by unfold aB;rw[bg O,Int.toNat_natCast];exact h
theorem pk{i:Int}(b:0<=i)(h:i<l.length): ∃x,aB l i=aa x/\l[i.toNat]? =aa x:=by
 have a:i.toNat<l.length:=O
 exact⟨l[i.toNat],by unfold aB;rw[bg b,bD a],bD a⟩
theorem iU{a b:Int}(c:0<=a)(d:a<=b)(e:b<=l.length):sub l a b=aa ((l.take b.toNat).drop a.toNat):=by unfold sub;rw[bg ⟨c,d,e⟩]
theorem dM{a b:List k}(h:a.length+b.length<=1000000000):app a b=aa (a++b):=by unfold app;rw[bg h]
theorem Qg{a b:List UInt8}(h:(a.length:Int)+b.length<=9223372036854775807):cat a b=aa (a++b):=by unfold cat;rw[bg h]
end
set_option linter.unusedVariables false
structure cC where
 name:List UInt8
 b8:List Int
 deriving Inhabited
abbrev a6(x:cC):List T:=[T.str x.name,T.bH (bj ai x.b8)]
theorem rC(x:cC):(a6 x).length=2:=rfl
structure aE where
 aK:List Int
 const:Int
 deriving Inhabited
abbrev aq(x:aE):List T:=[T.bH (bj ai x.aK),T.int .i64 x.const]
theorem fX(x:aE):(aq x).length=2:=rfl
structure cx where
 array:List UInt8
 a7:List aE
 deriving Inhabited
abbrev eI(x:cx):List T:=[T.str x.array,T.bH (bj aq x.a7)]
theorem EC(x:cx):(eI x).length=2:=rfl
structure Expr where
 kind:Int
 num:Int
 index:aE
 read:cx
 a1:List Expr
instance:Inhabited Expr:=⟨⟨0,0,(⟨[],0⟩:aE),(⟨[],[]⟩:cx),[]⟩⟩
mutual
def aI:Expr->List T
 |⟨a0,aP,a2,a3,a4⟩=>[T.int .i64 a0,T.int .i64 aP,T.bH (bj ai a2.aK),T.int .i64 a2.const,T.str a3.array,T.bH (bj aq a3.a7),T.bH (qu a4)]
def qu:List Expr->List (List T)
 | []=>[]
 |x::l=>aI x::qu l
end
theorem FC: ∀l:List Expr,qu l=bj aI l
 | []=>by simp[qu]
 |x::l=>by simp[qu,FC l]
abbrev bm(x:Expr):List T:=[T.int .i64 x.kind,T.int .i64 x.num,T.bH (bj ai x.index.aK),T.int .i64 x.index.const,T.str x.read.array,T.bH (bj aq x.read.a7),T.bH (bj aI x.a1)]
theorem cQ(x:Expr):aI x=bm x:=by cases x;simp[aI,FC]
theorem j5(x:Expr):(aI x).length=7:=by rw[cQ];rfl
theorem se(x:Expr):mb 7 1 (bm x)=bj aI [x]:=by rw[show bj aI [x]=[bm x] from by simp only[bj,cQ]];rfl
structure Stmt where
 write:cx
 value:Expr
 deriving Inhabited
abbrev ax(x:Stmt):List T:=[T.str x.write.array,T.bH (bj aq x.write.a7),T.int .i64 x.value.kind,T.int .i64 x.value.num,T.bH (bj ai x.value.index.aK),T.int .i64 x.value.index.const,T.str x.value.read.array,T.bH (bj aq x.value.read.a7),T.bH (bj aI x.value.a1)]
theorem gR(x:Stmt):(ax x).length=9:=rfl
structure Loop where
 bo:List aE
 aL:List aE
 deriving Inhabited
abbrev av(x:Loop):List T:=[T.bH (bj aq x.bo),T.bH (bj aq x.aL)]
theorem fx(x:Loop):(av x).length=2:=rfl
structure Part where
 nest:List Loop
 body:List Stmt
 deriving Inhabited
abbrev an(x:Part):List T:=[T.bH (bj av x.nest),T.bH (bj ax x.body)]
theorem j4(x:Part):(an x).length=2:=rfl
structure Prog where
 bb:List cC
 parts:List Part
 deriving Inhabited
abbrev fc(x:Prog):List T:=[T.bH (bj a6 x.bb),T.bH (bj an x.parts)]
structure cO where
 part:Int
 stmt:Int
 da:List Int
 deriving Inhabited
abbrev cK(x:cO):List T:=[T.int .i64 x.part,T.int .i64 x.stmt,T.bH (bj ai x.da)]
theorem AV(x:cO):(cK x).length=3:=rfl
structure kZ where
 reads:List Int
 write:Int
 deriving Inhabited
abbrev dv(x:kZ):List T:=[T.bH (bj ai x.reads),T.int .i64 x.write]
theorem L'(x:kZ):(dv x).length=2:=rfl
structure Step where
 kind:Int
 part:Int
 a:Int
 b:Int
 deriving Inhabited
abbrev Ir(x:Step):List T:=[T.int .i64 x.kind,T.int .i64 x.part,T.int .i64 x.a,T.int .i64 x.b]
structure fW where
 eQ:Int
 eR:Int
 kinds:Int
 deriving Inhabited
abbrev di(x:fW):List T:=[T.int .i64 x.eQ,T.int .i64 x.eR,T.int .i64 x.kinds]
theorem BH(x:fW):(di x).length=3:=rfl
structure nk where
 nest:List Loop
 steps:Int
 out:List (List Int)
 deriving Inhabited
structure oo where
 program:Prog
 list:List cO
 reads:List (List Int)
 i':List Int
 deriving Inhabited
abbrev eC(x:oo):List T:=[T.bH (bj a6 x.program.bb),T.bH (bj an x.program.parts),T.bH (bj cK x.list),T.bH (bj (bh ai) x.reads),T.bH (bj ai x.i')]
def BM(n:Nat)(a:List Int)(left:Int):Option Int:=(bif aj (wr (left-(a.length:Int))<0) then aa (-1) else aa (wr (left-(a.length:Int))))
def F4(n:Nat)(a:cC)(left:Int):Option Int:=(bif aj (wr (left-(a.name.length:Int))<0) then aa (-1) else(BM n a.b8 (wr (left-(a.name.length:Int)))).bind λb=>bif aj (b<0) then aa (-1) else aa b)
def Fx(n:Nat)(a:List cC)(left:Int):Option Int:=(bif aj (wr (left-(a.length:Int))<0) then aa (-1) else bA (λe ((c,b):Int×Int)=>bif aj (b<a.length) then(aB a b).bind λh=>(F4 n h c).bind λd=>bif aj (d<0) then aa (-1) else e (d,wr (b+1)) else aa c) n (wr (left-(a.length:Int)),0))
def EU(n:Nat)(a:aE)(left:Int):Option Int:=((BM n a.aK left).bind λb=>bif aj (b<0) then aa (-1) else aa b)
def zx(n:Nat)(a:List aE)(left:Int):Option Int:=(bif aj (wr (left-(a.length:Int))<0) then aa (-1) else bA (λe ((c,b):Int×Int)=>bif aj (b<a.length) then(aB a b).bind λh=>(EU n h c).bind λd=>bif aj (d<0) then aa (-1) else e (d,wr (b+1)) else aa c) n (wr (left-(a.length:Int)),0))
def EV(n:Nat)(a:cx)(left:Int):Option Int:=(bif aj (wr (left-(a.array.length:Int))<0) then aa (-1) else(zx n a.a7 (wr (left-(a.array.length:Int)))).bind λb=>bif aj (b<0) then aa (-1) else aa b)
def F3(n:Nat)(self:Expr->Int->Option Int)(a:List Expr)(left:Int):Option Int:=(bif aj (wr (left-(a.length:Int))<0) then aa (-1) else bA (λe ((c,b):Int×Int)=>bif aj (b<a.length) then(aB a b).bind λh=>(self h c).bind λd=>bif aj (d<0) then aa (-1) else e (d,wr (b+1)) else aa c) n (wr (left-(a.length:Int)),0))
def rY:Nat->Expr->Int->Option Int
 |0,_,_=>ak
 |n+1,a,left=>((EU n a.index left).bind λb=>bif aj (b<0) then aa (-1) else(EV n a.read b).bind λc=>bif aj (c<0) then aa (-1) else(F3 n (rY n) a.a1 c).bind λd=>bif aj (d<0) then aa (-1) else aa d)
def GQ(n:Nat)(a:Stmt)(left:Int):Option Int:=((EV n a.write left).bind λb=>bif aj (b<0) then aa (-1) else(rY n a.value b).bind λc=>bif aj (c<0) then aa (-1) else aa c)
def F1(n:Nat)(a:List Stmt)(left:Int):Option Int:=(bif aj (wr (left-(a.length:Int))<0) then aa (-1) else bA (λe ((c,b):Int×Int)=>bif aj (b<a.length) then(aB a b).bind λh=>(GQ n h c).bind λd=>bif aj (d<0) then aa (-1) else e (d,wr (b+1)) else aa c) n (wr (left-(a.length:Int)),0))
def GS(n:Nat)(a:Loop)(left:Int):Option Int:=((zx n a.bo left).bind λb=>bif aj (b<0) then aa (-1) else(zx n a.aL b).bind λc=>bif aj (c<0) then aa (-1) else aa c)
def F2(n:Nat)(a:List Loop)(left:Int):Option Int:=(bif aj (wr (left-(a.length:Int))<0) then aa (-1) else bA (λe ((c,b):Int×Int)=>bif aj (b<a.length) then(aB a b).bind λh=>(GS n h c).bind λd=>bif aj (d<0) then aa (-1) else e (d,wr (b+1)) else aa c) n (wr (left-(a.length:Int)),0))
def GR(n:Nat)(a:Part)(left:Int):Option Int:=((F2 n a.nest left).bind λb=>bif aj (b<0) then aa (-1) else(F1 n a.body b).bind λc=>bif aj (c<0) then aa (-1) else aa c)
def M4(n:Nat)(a:List Part)(left:Int):Option Int:=(bif aj (wr (left-(a.length:Int))<0) then aa (-1) else bA (λe ((c,b):Int×Int)=>bif aj (b<a.length) then(aB a b).bind λh=>(GR n h c).bind λd=>bif aj (d<0) then aa (-1) else e (d,wr (b+1)) else aa c) n (wr (left-(a.length:Int)),0))
def Ex(n:Nat)(a:Prog)(left:Int):Option Int:=((Fx n a.bb left).bind λb=>bif aj (b<0) then aa (-1) else(M4 n a.parts b).bind λc=>bif aj (c<0) then aa (-1) else aa c)
def EX(n:Nat)(a:List cC):Option Bool:=(bA (λl (d:Int)=>bif aj (d<a.length) then(aB a d).bind λb=>aQ (fun(m:Bool)=>bif m then aa al else bA (λo (h:Int)=>bif aj (h<b.b8.length) then aQ (fun(i:Bool)=>bif i then aa al else o (wr (h+1))) (λk=>(aB b.b8 h).bind λe=>bif aj (e<1) then k ab else k (aj ((6:Int)<e))) else l (wr (d+1))) n 0) (λc=>bif !decide ((b.name.length:Int)=1) then c ab else bif Op.bytesLess b.name [65] then c ab else bif(!Op.bytesLess b.name [68]&& !b.name==[68]) then c ab else bif aj ((0:Int)<d) then(aB a (wr (d-1))).bind λp=>bif !Op.bytesLess p.name b.name then c ab else bif aj ((b.b8.length:Int)<1) then c ab else c (aj ((2:Int)<b.b8.length)) else bif aj ((b.b8.length:Int)<1) then c ab else c (aj ((2:Int)<b.b8.length))) else aa (aj ((a.length:Int)<=4))) n 0)
def qW(n:Nat)(a:aE):Option aE:=(bif aj ((a.aK.length:Int)=0) then aa (⟨[],a.const⟩:aE) else(app [] a.aK).bind λb=>aa (⟨b,a.const⟩:aE))
def qX(n:Nat)(a:cx):Option cx:=(bA (λd ((c,b):(List aE)×Int)=>bif aj (b<a.a7.length) then(aB a.a7 b).bind λe=>(qW n e).bind λh=>(app c [h]).bind λi=>d (i,wr (b+1)) else aa (⟨a.array,c⟩:cx)) n ([],0))
def tQ:Nat->(List cx)->Expr->Option (List cx)
 |0,_,_=>ak
 |n+1,out,e=>(aQ (fun(i:(List cx))=>bA (λk ((d,a):(List cx)×Int)=>bif aj (a<e.a1.length) then(aB e.a1 a).bind λb=>(tQ n d b).bind λc=>k (c,wr (a+1)) else aa d) n (i,0)) λh=>bif aj (e.kind=3) then(qX n e.read).bind λl=>(app out [l]).bind λm=>h m else h out)
def xG(n:Nat)(a:cC):Option Int:=(bA (λd ((c,b):Int×Int)=>bif aj (b<a.b8.length) then(aB a.b8 b).bind λe=>d (wr (c*e),wr (b+1)) else aa c) n (1,0))
def oW(n:Nat)(a:aE)(b:List Int):Option Int:=(bA (λh ((d,c):Int×Int)=>aQ (fun(i:Bool)=>bif i then(aB a.aK c).bind λk=>(aB b c).bind λl=>h (wr (d+(wr (k*l))),wr (c+1)) else aa d) λe=>bif aj (c<b.length) then e (aj (c<a.aK.length)) else e al) n (a.const,0))
def xH(n:Nat)(b:List cC)(a:cx)(c:List Int):Option Int:=(bA (λr ((p,k):Int×Int)=>bif aj (k<b.length) then(aB b k).bind λe=>bif !decide (e.name=a.array) then(xG n e).bind λs=>r (wr (p+s),wr (k+1)) else bA (λw ((q,h):Int×Int)=>bif aj (h<a.a7.length) then bif !decide ((a.a7.length:Int)=e.b8.length) then aa (-1) else(aB a.a7 h).bind λx=>(oW n x c).bind λd=>aQ (fun(l:Bool)=>bif l then aa (-1) else(aB e.b8 h).bind λm=>w (wr ((wr (q*m))+d),wr (h+1))) (λi=>bif aj (d<0) then i ab else(aB e.b8 h).bind λo=>i (aj (o<=d))) else aa (wr (p+q))) n (0,0) else aa (-1)) n (0,0))
def wZ(n:Nat)(b:List cC)(s:Stmt)(a:List Int):Option ((List Int)×Int×Bool):=((tQ n [] s.value).bind λd=>bA (λk ((e,c):(List Int)×Int)=>bif aj (c<d.length) then(aB d c).bind λl=>(xH n b l a).bind λh=>bif aj (h<0) then aa ([],0,al) else(app e [h]).bind λm=>k (m,wr (c+1)) else(xH n b s.write a).bind λi=>bif aj (i<0) then aa ([],0,al) else aa (e,i,ab)) n ([],0))
def Bz(n:Nat)(a:Int):Option Int:=(aQ (fun(d:Bool)=>bif d then aa 0 else aQ (fun(e:Bool)=>bif e then aa 2 else aa (-1)) λb=>bif aj (a=4) then b (aj (a=4)) else bif aj (a=5) then b (aj (a=5)) else b (aj (a=6))) λc=>bif aj (a=1) then c (aj (a=1)) else bif aj (a=2) then c (aj (a=2)) else c (aj (a=3)))
def rr(n:Nat)(a b:Int):Option Bool:=(aQ (fun(d:Bool)=>aa d) λc=>bif aj (wr (0-b)<=a) then c (aj (a<=b)) else c al)
def vZ(n:Nat)(a:aE):Option Bool:=(bA (λd (b:Int)=>bif aj (b<a.aK.length) then(aB a.aK b).bind λe=>(rr n e 9).bind λh=>bif !h then aa al else d (wr (b+1)) else aQ (fun(i:Bool)=>aa i) λc=>bif aj ((a.aK.length:Int)=4) then(rr n a.const 99).bind λk=>c k else c al) n 0)
def w1(n:Nat)(a:cx):Option Bool:=(aQ (fun(c:Bool)=>aa c) λb=>bif aj (a.array=[]) then b (aj ((a.a7.length:Int)=0)) else b al)
def xn(n:Nat)(a:aE):Option Bool:=(aQ (fun(c:Bool)=>aa c) λb=>bif aj ((a.aK.length:Int)=0) then b (aj (a.const=0)) else b al)
def oR(n:Nat)(a:aE):Option Int:=(bA (λe ((c,b):Int×Int)=>bif aj (b<a.aK.length) then aQ (fun(h:Int)=>e (h,wr (b+1))) (λd=>(aB a.aK b).bind λi=>bif !decide (i=0) then d (wr (b+1)) else d c) else aa c) n (0,0))
def zK(n:Nat)(a:cx)(b:Int):Option Bool:=(bA (λi (d:Int)=>bif aj (d<a.a7.length) then aQ (fun(k:Bool)=>bif k then aa al else i (wr (d+1))) (λe=>(aB a.a7 d).bind λh=>(vZ n h).bind λl=>bif !l then e ab else(oR n h).bind λm=>e (aj (b<m))) else aQ (fun(o:Bool)=>aa o) λc=>bif aj ((a.array.length:Int)=1) then bif !Op.bytesLess a.array [65] then bif(Op.bytesLess a.array [68]||a.array==[68]) then bif aj ((1:Int)<=a.a7.length) then c (aj ((a.a7.length:Int)<=2)) else c al else c al else c al else c al) n 0)
def B'(n:Nat)(e:Expr)(a:Int):Option Bool:=(bif aj (e.kind=2) then aQ (fun(q:Bool)=>aa q) (λd=>bif aj (e.num=0) then(w1 n e.read).bind λr=>bif r then(vZ n e.index).bind λs=>bif s then(oR n e.index).bind λw=>d (aj (w<=a)) else d al else d al else d al) else bif aj (e.kind=3) then aQ (fun(x:Bool)=>aa x) (λh=>bif aj (e.num=0) then(xn n e.index).bind λy=>bif y then(zK n e.read a).bind λz=>h z else h al else h al) else bif aj (e.kind=1) then aQ (fun(i:Bool)=>aa i) (λb=>bif aj ((0:Int)<=e.num) then bif aj (e.num<=99) then(xn n e.index).bind λk=>bif k then(w1 n e.read).bind λl=>b l else b al else b al else b al) else aQ (fun(m:Bool)=>aa m) λc=>bif aj (e.num=0) then(xn n e.index).bind λo=>bif o then(w1 n e.read).bind λp=>c p else c al else c al)
def rJ:Nat->Expr->Int->Int->Option Bool
 |0,_,_,_=>ak
 |n+1,e,b,a=>(aQ (fun(h:Bool)=>bif h then aa al else bA (λi (c:Int)=>bif aj (c<e.a1.length) then(aB e.a1 c).bind λk=>(rJ n k b (wr (a-1))).bind λl=>bif !l then aa al else i (wr (c+1)) else aa ab) n 0) λd=>bif aj (a<1) then d ab else(Bz n e.kind).bind λm=>bif !decide (m=e.a1.length) then d ab else(B' n e b).bind λo=>d (!o))
def tP:Nat->Expr->Int->Option Int
 |0,_,_=>ak
 |n+1,e,a=>(bA (λh ((c,b):Int×Int)=>aQ (fun(i:Bool)=>bif i then(aB e.a1 b).bind λk=>(tP n k (wr (a-1))).bind λl=>h (wr (c+l),wr (b+1)) else aa c) λd=>bif aj (b<e.a1.length) then d (aj ((0:Int)<a)) else d al) n (1,0))
def zE(n:Nat)(s:Stmt)(a:Int):Option Bool:=(aQ (fun(c:Bool)=>bif c then aa al else(tP n s.value 5).bind λd=>aa (aj (d<=12))) λb=>bif aj (a<0) then b ab else bif aj ((4:Int)<a) then b ab else(zK n s.write a).bind λe=>bif !e then b ab else(rJ n s.value a 5).bind λh=>b (!h))
def AQ(n:Nat)(p:List Int):Option Bool:=(bA (λb (a:Int)=>bif aj (a<p.length) then(aB p a).bind λc=>(rr n c 9999).bind λd=>bif !d then aa al else b (wr (a+1)) else aa (aj ((p.length:Int)<=4))) n 0)
def Ae(n:Nat)(a:Loop)(p:List Int):Option (Int×Int):=((aB a.bo 0).bind λs=>(oW n s p).bind λw=>(aB a.aL 0).bind λx=>(oW n x p).bind λy=>bA (λz ((i,k):Int×Int)=>bif aj (k<a.bo.length) then aQ (fun(l:Int)=>z (l,wr (k+1))) (λr=>(aB a.bo k).bind λA=>(oW n A p).bind λd=>bif aj (i<d) then r d else r i) else bA (λm ((b,c):Int×Int)=>bif aj (c<a.aL.length) then aQ (fun(o:Int)=>m (o,wr (c+1))) (λe=>(aB a.aL c).bind λq=>(oW n q p).bind λh=>bif aj (h<b) then e h else e b) else aa (i,b)) n (y,1)) n (w,1))
def p4:Nat->(List (List Int))->(List Loop)->(List Int)->Option (List (List Int))
 |0,_,_,_=>ak
 |n+1,out,nest,p=>(bif aj ((p.length:Int)=nest.length) then(app [] p).bind λl=>(app out [l]).bind λm=>aa m else(aB nest p.length).bind λo=>(Ae n o p).bind λi=>bA (λq ((a,b):(List (List Int))×Int)=>aQ (fun(c:Bool)=>bif c then(app [] p).bind λd=>(app d [b]).bind λe=>(p4 n a nest e).bind λh=>q (h,wr (b+1)) else aa a) λk=>bif aj (b<i.2) then k (aj ((a.length:Int)<=120)) else k al) n (out,i.1))
def xI(n:Nat)(a:List aE)(b:Int):Option Bool:=(bA (λi (c:Int)=>bif aj (c<a.length) then aQ (fun(k:Bool)=>bif k then aa al else i (wr (c+1))) (λd=>(aB a c).bind λe=>(vZ n e).bind λl=>bif !l then d ab else(oR n e).bind λm=>d (aj (b<m))) else aQ (fun(o:Bool)=>aa o) λh=>bif aj ((1:Int)<=a.length) then h (aj ((a.length:Int)<=2)) else h al) n 0)
def EB(n:Nat)(a:List Loop):Option Bool:=(bA (λh (b:Int)=>aQ (fun(i:Bool)=>bif i then aQ (fun(k:Bool)=>bif k then aa al else h (wr (b+1))) (λc=>(aB a b).bind λd=>(xI n d.bo b).bind λl=>bif !l then c ab else(xI n d.aL b).bind λm=>c (!m)) else aa (aj ((a.length:Int)<=4))) λe=>bif aj (b<a.length) then e (aj ((a.length:Int)<=4)) else e al) n 0)
def rH:Nat->(List Loop)->(List Int)->Int->Option Int
 |0,_,_,_=>ak
 |n+1,nest,p,a=>(bif aj ((p.length:Int)=nest.length) then aa 1 else(aB nest p.length).bind λi=>(Ae n i p).bind λe=>bA (λk ((b,c):Int×Int)=>aQ (fun(l:Bool)=>bif l then(app [] p).bind λm=>(app m [c]).bind λo=>(rH n nest o (wr (a-b))).bind λd=>k (wr (b+d),wr (c+1)) else aa b) λh=>bif aj (c<e.2) then h (aj (b<=a)) else h al) n (1,e.1))
def Ea(n:Nat)(a:List Loop):Option ((List (List Int))×Bool):=(aQ (fun(d:Bool)=>bif d then aa ([],al) else(p4 n [] a []).bind λb=>bif aj ((120:Int)<b.length) then aa ([],al) else aa (b,ab)) λc=>(EB n a).bind λe=>bif !e then c ab else(rH n a [] 1200).bind λh=>c (aj ((1200:Int)<h)))
def Bx(n:Nat)(b:List cC)(a:Part):Option (Int×Bool):=((Ea n a.nest).bind λe=>aQ (fun(q:Bool)=>bif q then aa (0,al) else bA (λr (h:Int)=>bif aj (h<a.body.length) then(aB a.body h).bind λp=>(zE n p a.nest.length).bind λs=>bif !s then aa (0,al) else bA (λw (i:Int)=>bif aj (i<e.1.length) then(aB e.1 i).bind λc=>(wZ n b p c).bind λk=>aQ (fun(l:Bool)=>bif l then aa (0,al) else w (wr (i+1))) (λd=>bif !k.2.2 then d ab else(AQ n c).bind λm=>d (!m)) else r (wr (h+1))) n 0 else aa (wr ((e.1.length:Int)*(a.body.length:Int)),ab)) n 0) λo=>bif !e.2 then o ab else bif aj ((a.body.length:Int)<1) then o ab else o (aj ((4:Int)<a.body.length)))
def lF(n:Nat)(p:Prog):Option Bool:=(aQ (fun(e:Bool)=>bif e then aa al else bA (λh ((b,a):Int×Int)=>bif aj (a<p.parts.length) then(aB p.parts a).bind λi=>(Bx n p.bb i).bind λc=>bif !c.2 then aa al else h (wr (b+c.1),wr (a+1)) else aa (aj (b<=120))) n (0,0)) λd=>(EX n p.bb).bind λk=>bif !k then d ab else d (aj ((4:Int)<p.parts.length)))
def xJ(n:Nat)(a:List Loop):Option (List Loop):=(bA (λx ((s,i):(List Loop)×Int)=>bif aj (i<a.length) then bA (λy ((w,k):(List aE)×Int)=>(aB a i).bind λh=>bif aj (k<h.bo.length) then(aB h.bo k).bind λc=>(app [] c.aK).bind λl=>(app w [(⟨l,c.const⟩:aE)]).bind λm=>y (m,wr (k+1)) else bA (λo ((d,b):(List aE)×Int)=>bif aj (b<h.aL.length) then(aB h.aL b).bind λe=>(app [] e.aK).bind λp=>(app d [(⟨p,e.const⟩:aE)]).bind λq=>o (q,wr (b+1)) else(app s [(⟨w,d⟩:Loop)]).bind λr=>x (r,wr (i+1))) n ([],0)) n ([],0) else aa s) n ([],0))
def rI:Nat->Expr->Option Expr
 |0,_=>ak
 |n+1,e=>((qW n e.index).bind λc=>(qX n e.read).bind λd=>bA (λh ((b,a):(List Expr)×Int)=>bif aj (a<e.a1.length) then(aB e.a1 a).bind λi=>(rI n i).bind λk=>(app b [k]).bind λl=>h (l,wr (a+1)) else aa (⟨e.kind,e.num,c,d,b⟩:Expr)) n ([],0))
def xo(n:Nat)(s:Stmt):Option Stmt:=((qX n s.write).bind λa=>(rI n s.value).bind λb=>aa (⟨a,b⟩:Stmt))
def xm(n:Nat)(p:Prog):Option Prog:=(bA (λx ((r,d):(List cC)×Int)=>bif aj (d<p.bb.length) then(aB p.bb d).bind λs=>(app [] s.b8).bind λy=>(app r [(⟨s.name,y⟩:cC)]).bind λz=>x (z,wr (d+1)) else bA (λe ((w,h):(List Part)×Int)=>bif aj (h<p.parts.length) then(aB p.parts h).bind λa=>(xJ n a.nest).bind λi=>bA (λk ((c,b):(List Stmt)×Int)=>bif aj (b<a.body.length) then(aB a.body b).bind λl=>(xo n l).bind λm=>(app c [m]).bind λo=>k (o,wr (b+1)) else(app w [(⟨i,c⟩:Part)]).bind λq=>e (q,wr (h+1))) n ([],0) else aa (⟨r,w⟩:Prog)) n ([],0)) n ([],0))
def jA(n:Nat)(p:Prog)(a many:Int)(b:List Part):Option (Prog×Bool):=((xm n p).bind λc=>(sub c.parts 0 a).bind λe=>(app [] e).bind λh=>(app h b).bind λi=>(sub c.parts (wr (a+many)) (c.parts.length:Int)).bind λk=>(app i k).bind λd=>(lF n (⟨c.bb,d⟩:Prog)).bind λl=>bif !l then aa ((⟨[],[]⟩:Prog),al) else(xm n (⟨c.bb,d⟩:Prog)).bind λm=>aa (m,ab))
def pz(n:Nat)(p:Prog):Option (List cO):=(bA (λs ((m,c):(List cO)×Int)=>bif aj (c<p.parts.length) then(aB p.parts c).bind λo=>(p4 n [] o.nest []).bind λq=>bA (λd ((r,e):(List cO)×Int)=>bif aj (e<q.length) then bA (λh ((b,a):(List cO)×Int)=>bif aj (a<o.body.length) then(aB q e).bind λi=>(app [] i).bind λk=>(app b [(⟨c,a,k⟩:cO)]).bind λl=>h (l,wr (a+1)) else d (b,wr (e+1))) n (r,0) else s (r,wr (c+1))) n (m,0) else aa m) n ([],0))
def wy(n:Nat)(a:List Bool):Option (List Int):=(bA (λe ((c,b):(List Int)×Int)=>bif aj (b<a.length) then aQ (fun(h:(List Int))=>e (h,wr (b+1))) (λd=>(aB a b).bind λi=>bif i then(app c [b]).bind λk=>d k else d c) else aa c) n ([],0))
def xk(n:Nat)(p:Prog):Option (List kZ):=((pz n p).bind λd=>bA (λi ((e,a):(List kZ)×Int)=>bif aj (a<d.length) then(aB d a).bind λb=>(aB p.parts b.part).bind λk=>(aB k.body b.stmt).bind λl=>(wZ n p.bb l b.da).bind λh=>(app e [(⟨h.1,h.2.1⟩:kZ)]).bind λc=>i (c,wr (a+1)) else aa e) n ([],0))
def EW(n:Nat)(b:List kZ)(a c:Int):Option Int:=(bA (λe (d:Int)=>bif aj ((0:Int)<=d) then(aB b d).bind λh=>bif aj (h.write=c) then aa d else e (wr (d-1)) else aa (-1)) n (wr (a-1)))
def DN(n:Nat)(p:Prog):Option (List Int):=((lF n p).bind λW=>bif !W then aa [] else(xk n p).bind λc=>(mk c.length al).bind λX=>bA (λf ((m,a):(List Bool)×Int)=>bif aj ((0:Int)<=a) then bA (λo ((R,q):Bool×Int)=>bif aj (q<c.length) then aQ (fun(r:Bool)=>o (r,wr (q+1))) (λh=>bif R then(aB c q).bind λs=>(aB c a).bind λw=>h (!decide (s.write=w.write)) else h al) else aQ (fun(x:(List Bool))=>bA (λy ((b,d):(List Bool)×Int)=>aQ (fun(z:Bool)=>bif z then aQ (fun(A:(List Bool))=>y (A,wr (d+1))) (λi=>(aB c a).bind λB=>(aB B.reads d).bind λC=>(EW n c a C).bind λe=>bif aj ((0:Int)<=e) then(aB b e).bind λg=>(ch b e ab).bind λD=>i D else i b) else f (b,wr (a-1))) λk=>(aB c a).bind λF=>bif aj (d<F.reads.length) then(aB b a).bind λG=>k G else k al) n (x,0)) λl=>(aB m a).bind λH=>bif H then(ch m a ab).bind λK=>l K else(ch m a R).bind λL=>l L) n (ab,wr (a+1)) else(wy n m).bind λQ=>aa Q) n (X,wr ((c.length:Int)-1)))
def DV(n:Nat)(x:cC):Option cC:=((app [] x.b8).bind λa=>aa (⟨x.name,a⟩:cC))
def vk(n:Nat)(a:List cC):Option (List cC):=(bA (λd ((c,b):(List cC)×Int)=>bif aj (b<a.length) then(aB a b).bind λe=>(DV n e).bind λh=>(app c [h]).bind λi=>d (i,wr (b+1)) else aa c) n ([],0))
def zb(n:Nat)(x:aE):Option aE:=((app [] x.aK).bind λa=>aa (⟨a,x.const⟩:aE))
def sO(n:Nat)(a:List aE):Option (List aE):=(bA (λd ((c,b):(List aE)×Int)=>bif aj (b<a.length) then(aB a b).bind λe=>(zb n e).bind λh=>(app c [h]).bind λi=>d (i,wr (b+1)) else aa c) n ([],0))
def D'(n:Nat)(x:Loop):Option Loop:=((sO n x.bo).bind λa=>(sO n x.aL).bind λb=>aa (⟨a,b⟩:Loop))
def vp(n:Nat)(a:List Loop):Option (List Loop):=(bA (λd ((c,b):(List Loop)×Int)=>bif aj (b<a.length) then(aB a b).bind λe=>(D' n e).bind λh=>(app c [h]).bind λi=>d (i,wr (b+1)) else aa c) n ([],0))
def tg(n:Nat)(x:cx):Option cx:=((sO n x.a7).bind λa=>aa (⟨x.array,a⟩:cx))
def Kd(n:Nat)(self:Expr->Option Expr)(a:List Expr):Option (List Expr):=(bA (λd ((c,b):(List Expr)×Int)=>bif aj (b<a.length) then(aB a b).bind λe=>(self e).bind λh=>(app c [h]).bind λi=>d (i,wr (b+1)) else aa c) n ([],0))
def o2:Nat->Expr->Option Expr
 |0,_=>ak
 |n+1,x=>((zb n x.index).bind λa=>(tg n x.read).bind λb=>(Kd n (o2 n) x.a1).bind λc=>aa (⟨x.kind,x.num,a,b,c⟩:Expr))
def zm(n:Nat)(x:Stmt):Option Stmt:=((tg n x.write).bind λa=>(o2 n x.value).bind λb=>aa (⟨a,b⟩:Stmt))
def vn(n:Nat)(a:List Stmt):Option (List Stmt):=(bA (λd ((c,b):(List Stmt)×Int)=>bif aj (b<a.length) then(aB a b).bind λe=>(zm n e).bind λh=>(app c [h]).bind λi=>d (i,wr (b+1)) else aa c) n ([],0))
def zn(n:Nat)(x:Part):Option Part:=((vp n x.nest).bind λa=>(vn n x.body).bind λb=>aa (⟨a,b⟩:Part))
def vo(n:Nat)(a:List Part):Option (List Part):=(bA (λd ((c,b):(List Part)×Int)=>bif aj (b<a.length) then(aB a b).bind λe=>(zn n e).bind λh=>(app c [h]).bind λi=>d (i,wr (b+1)) else aa c) n ([],0))
def jf(n:Nat)(x:Prog):Option Prog:=((vk n x.bb).bind λa=>(vo n x.parts).bind λb=>aa (⟨a,b⟩:Prog))
def pT(n:Nat)(p:Prog)(a:Int):Option (Prog×Bool):=((jf n p).bind λb=>aQ (fun(k:Bool)=>bif k then aa ((⟨[],[]⟩:Prog),al) else(DN n b).bind λi=>(pz n b).bind λl=>bA (λm (d:Int)=>bif aj (d<i.length) then(aB i d).bind λo=>(aB l o).bind λe=>bif aj (e.part=a) then aa ((⟨[],[]⟩:Prog),al) else m (wr (d+1)) else(jA n b a 1 []).bind λc=>aa (c.1,c.2)) n 0) λh=>(lF n b).bind λq=>bif !q then h ab else bif aj (a<0) then h ab else h (aj ((b.parts.length:Int)<=a)))
def BC(n:Nat)(a:Int):Option Expr:=(aa (⟨1,a,(⟨[],0⟩:aE),(⟨[],[]⟩:cx),[]⟩:Expr))
def BB(n:Nat)(e:Expr)(a b:Int):Option Expr:=(aQ (fun(c:Int)=>aQ (fun(i:Bool)=>bif i then aa e else(BC n c).bind λk=>aa k) λh=>bif aj (c<0) then h ab else h (aj ((99:Int)<c))) λd=>bif aj (e.kind=4) then d (wr (a+b)) else bif aj (e.kind=5) then d (wr (a-b)) else d (wr (a*b)))
def p6(n:Nat)(e:Expr)(a:Int):Option Bool:=(aQ (fun(c:Bool)=>aa c) λb=>bif aj (e.kind=1) then b (aj (e.num=a)) else b al)
def Af(n:Nat)(e:Expr):Option Expr:=(aQ (fun(D:Bool)=>bif D then(BC n e.index.const).bind λF=>aa F else bif aj ((e.a1.length:Int)=0) then aa e else(aB e.a1 0).bind λd=>(aB e.a1 1).bind λh=>aQ (fun(G:Bool)=>bif G then(BB n e d.num h.num).bind λH=>aa H else aQ (fun(o:Bool)=>bif o then aa d else aQ (fun(p:Bool)=>bif p then aa h else aQ (fun(q:Bool)=>bif q then(BC n 0).bind λr=>aa r else aa e) λa=>bif aj (e.kind=6) then(p6 n d 0).bind λs=>bif s then a ab else(p6 n h 0).bind λw=>a w else a al) λb=>aQ (fun(i:Bool)=>bif i then b i else bif aj (e.kind=6) then(p6 n d 1).bind λx=>b x else b al) λk=>bif aj (e.kind=4) then(p6 n d 0).bind λy=>k y else k al) λc=>aQ (fun(l:Bool)=>bif l then c l else bif aj (e.kind=6) then(p6 n h 1).bind λz=>c z else c al) λm=>bif !decide (e.kind=6) then(p6 n h 0).bind λA=>m A else m al) λC=>bif aj (d.kind=1) then C (aj (h.kind=1)) else C al) λB=>bif aj (e.kind=2) then(oR n e.index).bind λK=>bif aj (K=0) then B (aj ((0:Int)<=e.index.const)) else B al else B al)
def rG:Nat->Expr->Option Expr
 |0,_=>ak
 |n+1,e=>((qW n e.index).bind λd=>(qX n e.read).bind λh=>bA (λi ((c,a):(List Expr)×Int)=>bif aj (a<e.a1.length) then(aB e.a1 a).bind λk=>(rG n k).bind λl=>(app c [l]).bind λm=>i (m,wr (a+1)) else(Af n (⟨e.kind,e.num,d,h,c⟩:Expr)).bind λb=>aa b) n ([],0))
def Ao(n:Nat)(s:Stmt):Option (Stmt×Bool):=((zE n s 4).bind λa=>bif !a then aa ((⟨(⟨[],[]⟩:cx),(⟨0,0,(⟨[],0⟩:aE),(⟨[],[]⟩:cx),[]⟩:Expr)⟩:Stmt),al) else(qX n s.write).bind λb=>(rG n s.value).bind λc=>aa ((⟨b,c⟩:Stmt),ab))
def vY(n:Nat)(p:Prog):Option (Prog×Bool):=((jf n p).bind λo=>(lF n o).bind λr=>bif !r then aa ((⟨[],[]⟩:Prog),al) else(xm n o).bind λq=>bA (λs ((d,b):(List Part)×Int)=>bif aj (b<d.length) then bA (λe ((h,c):(List Part)×Int)=>(aB h b).bind λa=>bif aj (c<a.body.length) then(aB a.body c).bind λi=>(Ao n i).bind λk=>(ch a.body c k.1).bind λl=>(ch h b ({a with body:=l})).bind λm=>e (m,wr (c+1)) else s (h,wr (b+1))) n (d,0) else aa ((⟨q.bb,d⟩:Prog),ab)) n (q.parts,0))
def EA(n:Nat)(a:Int):Option Int:=(aQ (fun(e:Bool)=>bif e then aa 3 else aQ (fun(h:Bool)=>bif h then aa 2 else aQ (fun(i:Bool)=>bif i then aa 1 else aa 0) λc=>bif aj (a=6) then c (aj (a=6)) else bif aj (a=9) then c (aj (a=9)) else c (aj (a=10))) λb=>bif aj (a=1) then b (aj (a=1)) else bif aj (a=2) then b (aj (a=2)) else bif aj (a=7) then b (aj (a=7)) else b (aj (a=8))) λd=>bif aj (a=3) then d (aj (a=3)) else bif aj (a=4) then d (aj (a=4)) else d (aj (a=5)))
def ER(n:Nat)(s:Step):Option Bool:=((EA n s.kind).bind λd=>aQ (fun(e:Bool)=>aa e) λc=>bif aj ((1:Int)<=s.kind) then bif aj (s.kind<=11) then bif aj ((0:Int)<d) then bif aj ((1:Int)<d) then bif aj ((2:Int)<d) then c ab else c (aj (s.b=0)) else bif aj (s.a=0) then bif aj ((2:Int)<d) then c ab else c (aj (s.b=0)) else c al else bif aj (s.part=0) then bif aj ((1:Int)<d) then bif aj ((2:Int)<d) then c ab else c (aj (s.b=0)) else bif aj (s.a=0) then bif aj ((2:Int)<d) then c ab else c (aj (s.b=0)) else c al else c al else c al else c al)
def lT(n:Nat)(p:Prog)(a b:Int):Option Bool:=(aQ (fun(d:Bool)=>aa d) λc=>(lF n p).bind λe=>bif e then bif aj ((0:Int)<=a) then bif aj (a<p.parts.length) then bif aj ((0:Int)<=b) then(aB p.parts a).bind λh=>c (aj (b<h.nest.length)) else c al else c al else c al else c al)
def Bv(n:Nat)(x:Loop)(v:Int):Option Bool:=(bA (λc (a:Int)=>bif aj (a<x.bo.length) then(aB x.bo a).bind λd=>(aB d.aK v).bind λe=>bif !decide (e=0) then aa ab else c (wr (a+1)) else bA (λh (b:Int)=>bif aj (b<x.aL.length) then(aB x.aL b).bind λi=>(aB i.aK v).bind λk=>bif !decide (k=0) then aa ab else h (wr (b+1)) else aa al) n 0) n 0)
def Ag(n:Nat)(p:List Int)(q:List Int):Option Bool:=(bA (λe (a:Int)=>aQ (fun(h:Bool)=>bif h then(aB p a).bind λb=>(aB q a).bind λc=>bif !decide (b=c) then aa (aj (b<c)) else e (wr (a+1)) else aa (aj ((p.length:Int)<q.length))) λd=>bif aj (a<p.length) then d (aj (a<q.length)) else d al) n 0)
def xK(n:Nat)(a:List Int)(b:List Int):Option Bool:=(bif !decide ((a.length:Int)=b.length) then aa al else bA (λd (c:Int)=>bif aj (c<a.length) then(aB a c).bind λe=>(aB b c).bind λh=>bif !decide (e=h) then aa al else d (wr (c+1)) else aa ab) n 0)
def B9(n:Nat)(a:List (List Int))(d:List Int):Option (List (List Int)):=(bA (λy ((c,e,h):(List (List Int))×Bool×Int)=>bif aj (h<a.length) then(aB a h).bind λi=>(xK n i d).bind λz=>bif z then aa a else aQ (fun((k,l):(List (List Int))×Bool)=>(app k [i]).bind λm=>y (m,l,wr (h+1))) (λw=>aQ (fun(o:Bool)=>bif o then(app c [d]).bind λp=>w (p,ab) else w (c,e)) λx=>bif !e then(Ag n d i).bind λq=>x q else x al) else aQ (fun(r:(List (List Int)))=>aa r) λb=>bif !e then(app c [d]).bind λs=>b s else b c) n ([],al,0))
def AM(n:Nat)(a:List Int)(b:List Int):Option (List Int):=(bA (λe ((d,c):(List Int)×Int)=>bif aj (c<a.length) then(aB a c).bind λh=>(aB b c).bind λi=>(app d [wr (h-i)]).bind λk=>e (k,wr (c+1)) else aa d) n ([],0))
def uu(n:Nat)(a:List Int)(b:Int):Option Bool:=(bA (λd (c:Int)=>bif aj (c<a.length) then(aB a c).bind λe=>bif aj (e=b) then aa ab else d (wr (c+1)) else aa al) n 0)
def AN(n:Nat)(a b:kZ):Option Int:=(aQ (fun(c:Int)=>aQ (fun(d:Int)=>aQ (fun(k:Int)=>aa k) λe=>bif aj (a.write=b.write) then e (wr (d+4)) else e d) λh=>(uu n a.reads b.write).bind λl=>bif l then h (wr (c+2)) else h c) λi=>(uu n b.reads a.write).bind λm=>bif m then i (wr (0+1)) else i 0)
def xl(n:Nat)(p:Prog):Option (List fW):=((xk n p).bind λd=>bA (λq ((o,a):(List fW)×Int)=>bif aj (a<d.length) then bA (λr ((h,e):(List fW)×Int)=>bif aj (e<d.length) then aQ (fun(i:(List fW))=>r (i,wr (e+1))) (λb=>(aB d a).bind λk=>(aB d e).bind λl=>(AN n k l).bind λc=>bif !decide (c=0) then(app h [(⟨a,e,c⟩:fW)]).bind λm=>b m else b h) else q (h,wr (a+1))) n (o,wr (a+1)) else aa o) n ([],0))
def zf(n:Nat)(p:Prog)(a:Int):Option (List (List Int)):=((pz n p).bind λo=>(xl n p).bind λq=>bA (λw ((e,h):(List (List Int))×Int)=>bif aj (h<q.length) then aQ (fun((x,y,z,A,B,C,i):Int×Int×(List Int)×Int×Int×(List Int)×(List (List Int)))=>w (i,wr (h+1))) (λr=>(aB q h).bind λs=>(aB o s.eQ).bind λb=>(aB o s.eR).bind λc=>aQ (fun(k:Bool)=>bif k then(AM n c.da b.da).bind λl=>(B9 n e l).bind λm=>r (b.part,b.stmt,b.da,c.part,c.stmt,c.da,m) else r (b.part,b.stmt,b.da,c.part,c.stmt,c.da,e)) λd=>bif aj (b.part=a) then d (aj (c.part=a)) else d al) else aa e) n ([],0))
def Eb(n:Nat)(d:List Int):Option Int:=(bA (λb (a:Int)=>bif aj (a<d.length) then(aB d a).bind λc=>bif !decide (c=0) then aa a else b (wr (a+1)) else aa (-1)) n 0)
def xF(n:Nat)(d:List Int):Option Bool:=((Eb n d).bind λa=>aQ (fun(c:Bool)=>aa c) λb=>bif aj (a<0) then b ab else(aB d a).bind λe=>b (aj ((0:Int)<e)))
def GM(n:Nat)(a:aE)(v:Int):Option aE:=((qW n a).bind λb=>(aB a.aK (wr (v+1))).bind λd=>(aB b.aK v).bind λi=>(ch b.aK v d).bind λc=>(aB a.aK v).bind λe=>(aB c (wr (v+1))).bind λk=>(ch c (wr (v+1)) e).bind λh=>aa (⟨h,b.const⟩:aE))
def j1(n:Nat)(a:aE)(x:Int)(b:aE)(y:Int):Option aE:=(bA (λe ((d,c):(List Int)×Int)=>bif aj (c<4) then(aB a.aK c).bind λh=>(aB b.aK c).bind λi=>(app d [wr ((wr (x*h))+(wr (y*i)))]).bind λk=>e (k,wr (c+1)) else aa (⟨d,wr ((wr (x*a.const))+(wr (y*b.const)))⟩:aE)) n ([],0))
def AP(n:Nat)(a:aE)(v:Int)(b:aE):Option aE:=((app [] a.aK).bind λc=>(aB c v).bind λi=>(ch c v 0).bind λd=>(aB a.aK v).bind λe=>(j1 n (⟨d,a.const⟩:aE) 1 b e).bind λh=>aa h)
def jB(n:Nat)(a:aE)(d v:Int)(b:aE):Option aE:=(bif aj (d=0) then(GM n a v).bind λo=>aa o else bif aj (d=1) then(AP n a v b).bind λp=>aa p else bA (λq ((e,c):(List Int)×Int)=>bif aj (c<4) then aQ (fun(h:(List Int))=>q (h,wr (c+1))) (λi=>bif aj (c<v) then(aB a.aK c).bind λr=>(app e [r]).bind λs=>i s else bif aj (c=v) then(app e [0]).bind λk=>i k else(aB a.aK (wr (c-1))).bind λl=>(app e [l]).bind λm=>i m) else aa (⟨e,a.const⟩:aE)) n ([],0))
def xj(n:Nat)(a:List aE)(c v:Int)(b:aE):Option (List aE):=(bA (λh ((e,d):(List aE)×Int)=>bif aj (d<a.length) then(aB a d).bind λi=>(jB n i c v b).bind λk=>(app e [k]).bind λl=>h (l,wr (d+1)) else aa e) n ([],0))
def wM(n:Nat)(a:cx)(c v:Int)(b:aE):Option cx:=((xj n a.a7 c v b).bind λd=>aa (⟨a.array,d⟩:cx))
def rK:Nat->Expr->Int->Int->aE->Option Expr
 |0,_,_,_,_=>ak
 |n+1,e,a,v,b=>(aQ (fun((r,s):(List Int)×Int)=>aQ (fun((w,x):(List UInt8)×(List aE))=>bA (λd ((l,c):(List Expr)×Int)=>bif aj (c<e.a1.length) then(aB e.a1 c).bind λh=>(rK n h a v b).bind λi=>(app l [i]).bind λk=>d (k,wr (c+1)) else aa (⟨e.kind,e.num,(⟨r,s⟩:aE),(⟨w,x⟩:cx),l⟩:Expr)) n ([],0)) λm=>bif aj (e.kind=3) then(wM n e.read a v b).bind λo=>m (o.array,o.a7) else m ([],[])) λp=>bif aj (e.kind=2) then(jB n e.index a v b).bind λq=>p (q.aK,q.const) else p ([],0))
def Bw(n:Nat)(a:List Stmt)(c v:Int)(b:aE):Option (List Stmt):=(bA (λi ((e,d):(List Stmt)×Int)=>bif aj (d<a.length) then(aB a d).bind λh=>(wM n h.write c v b).bind λk=>(rK n h.value c v b).bind λl=>(app e [(⟨k,l⟩:Stmt)]).bind λm=>i (m,wr (d+1)) else aa e) n ([],0))
def xE(n:Nat)(x:Loop)(a v:Int)(b:aE):Option Loop:=((xj n x.bo a v b).bind λc=>(xj n x.aL a v b).bind λd=>aa (⟨c,d⟩:Loop))
def tH(n:Nat)(x:Part)(a c v:Int)(b:aE):Option Part:=((sub x.nest 0 (wr (a+1))).bind λi=>(app [] i).bind λk=>(Bw n x.body c v b).bind λl=>bA (λm ((h,d):(List Loop)×Int)=>bif aj (d<x.nest.length) then(aB x.nest d).bind λo=>(xE n o c v b).bind λp=>(app h [p]).bind λe=>m (e,wr (d+1)) else aa (⟨h,l⟩:Part)) n (k,wr (a+1)))
def vX(n:Nat)(p:Prog)(b a:Int):Option (Prog×Bool):=((jf n p).bind λh=>aQ (fun(D:Bool)=>bif D then aa ((⟨[],[]⟩:Prog),al) else(zf n h b).bind λC=>bA (λo (d:Int)=>bif aj (d<C.length) then(aB C d).bind λe=>(app [] e).bind λi=>(aB e (wr (a+1))).bind λq=>(aB i a).bind λF=>(ch i a q).bind λk=>(aB e a).bind λr=>(aB k (wr (a+1))).bind λG=>(ch k (wr (a+1)) r).bind λs=>(xF n s).bind λw=>bif !w then aa ((⟨[],[]⟩:Prog),al) else o (wr (d+1)) else(aB h.parts b).bind λx=>(tH n x (wr (a+1)) 0 a (⟨[],0⟩:aE)).bind λc=>(aB c.nest a).bind λy=>(aB c.nest (wr (a+1))).bind λz=>(ch c.nest a z).bind λl=>(aB l (wr (a+1))).bind λH=>(ch l (wr (a+1)) y).bind λA=>(jA n h b 1 [(⟨A,c.body⟩:Part)]).bind λm=>aa (m.1,m.2)) n 0) λB=>(lT n h b a).bind λK=>bif !K then B ab else(lT n h b (wr (a+1))).bind λL=>bif !L then B ab else(aB h.parts b).bind λQ=>(aB Q.nest (wr (a+1))).bind λR=>(Bv n R a).bind λW=>B W)
def BA(n:Nat)(a:Loop):Option Bool:=(bA (λd (b:Int)=>bif aj (b<a.bo.length) then(aB a.bo b).bind λe=>(oR n e).bind λh=>bif aj ((0:Int)<h) then aa al else d (wr (b+1)) else bA (λi (c:Int)=>bif aj (c<a.aL.length) then(aB a.aL c).bind λk=>(oR n k).bind λl=>bif aj ((0:Int)<l) then aa al else i (wr (c+1)) else aa ab) n 0) n 0)
def wY(n:Nat)(x:Loop):Option (Int×Int×Bool):=(aQ (fun(b:Bool)=>bif b then aa (0,0,al) else(aB x.bo 0).bind λc=>(aB x.aL 0).bind λd=>aa (c.const,d.const,ab)) λa=>bif !decide ((x.bo.length:Int)=1) then a ab else bif !decide ((x.aL.length:Int)=1) then a ab else(BA n x).bind λe=>a (!e))
def xp(n:Nat):Option aE:=(aa (⟨[0,0,0,0],0⟩:aE))
def lK(n:Nat)(a:Int):Option aE:=((xp n).bind λb=>aa (⟨b.aK,a⟩:aE))
def uv(n:Nat)(v:Int):Option aE:=((xp n).bind λa=>(aB a.aK v).bind λc=>(ch a.aK v 1).bind λb=>aa (⟨b,a.const⟩:aE))
def vW(n:Nat)(p:Prog)(b a:Int):Option (Prog×Bool):=((jf n p).bind λi=>(lT n i b a).bind λC=>bif !C then aa ((⟨[],[]⟩:Prog),al) else(aB i.parts b).bind λz=>(aB z.nest a).bind λD=>(wY n D).bind λk=>(zf n i b).bind λA=>bA (λF ((B,l):Bool×Int)=>bif aj (l<A.length) then aQ (fun((G,m):(List Int)×Bool)=>F (m,wr (l+1))) (λd=>(aB A l).bind λo=>(app [] o).bind λe=>(aB e a).bind λq=>(ch e a (wr (0-q))).bind λc=>bif B then(xF n c).bind λr=>d (c,r) else d (c,al)) else bif !B then aa ((⟨[],[]⟩:Prog),al) else(lK n (wr ((wr (k.1+k.2.1))-1))).bind λs=>(uv n a).bind λw=>(j1 n s 1 w (-1)).bind λx=>(tH n z a 1 a x).bind λy=>(jA n i b 1 [y]).bind λh=>aa (h.1,h.2)) n (k.2.2,0))
def xD(n:Nat)(x:Part)(a:Int)(b:aE):Option Part:=((uv n a).bind λw=>(j1 n w 1 b (-1)).bind λy=>(tH n x a 1 a y).bind λh=>bA (λz ((s,i):(List aE)×Int)=>(aB x.nest a).bind λe=>bif aj (i<e.bo.length) then(aB e.bo i).bind λA=>(j1 n A 1 b 1).bind λk=>(app s [k]).bind λl=>z (l,wr (i+1)) else bA (λm ((d,c):(List aE)×Int)=>bif aj (c<e.aL.length) then(aB e.aL c).bind λo=>(j1 n o 1 b 1).bind λp=>(app d [p]).bind λq=>m (q,wr (c+1)) else(aB h.nest a).bind λB=>(ch h.nest a (⟨s,d⟩:Loop)).bind λr=>aa (⟨r,h.body⟩:Part)) n ([],0)) n ([],0))
def wK(n:Nat)(p:Prog)(a b c:Int):Option (Prog×Bool):=((jf n p).bind λe=>aQ (fun(l:Bool)=>bif l then aa ((⟨[],[]⟩:Prog),al) else(uv n b).bind λm=>(xp n).bind λo=>(j1 n m c o 0).bind λq=>(aB e.parts a).bind λh=>(xD n h (wr (b+1)) q).bind λi=>(jA n e a 1 [i]).bind λd=>aa (d.1,d.2)) λk=>(lT n e a b).bind λr=>bif !r then k ab else(lT n e a (wr (b+1))).bind λs=>bif !s then k ab else(rr n c 6).bind λw=>k (!w))
def wD(n:Nat)(p:Prog)(a c b:Int):Option (Prog×Bool):=((jf n p).bind λd=>aQ (fun(i:Bool)=>bif i then aa ((⟨[],[]⟩:Prog),al) else(aB d.parts a).bind λk=>(lK n b).bind λl=>(xD n k c l).bind λm=>(jA n d a 1 [m]).bind λe=>aa (e.1,e.2)) λh=>(lT n d a c).bind λo=>bif !o then h ab else(rr n b 6).bind λq=>h (!q))
def wz(n:Nat)(p:Prog)(c a b:Int):Option (Prog×Bool):=((jf n p).bind λk=>aQ (fun(K:Bool)=>bif K then aa ((⟨[],[]⟩:Prog),al) else(aB k.parts c).bind λG=>(aB G.nest a).bind λL=>(wY n L).bind λe=>bif !e.2.2 then aa ((⟨[],[]⟩:Prog),al) else aQ (fun(m:Int)=>(tH n G a 2 a (⟨[],0⟩:aE)).bind λd=>(uv n a).bind λo=>(lK n e.1).bind λq=>(j1 n o b q 1).bind λh=>(lK n e.1).bind λr=>(lK n e.2.1).bind λs=>(lK n b).bind λw=>(j1 n h 1 w 1).bind λx=>(sub d.nest 0 a).bind λy=>(app [] y).bind λz=>(xp n).bind λA=>(lK n m).bind λB=>(app z [(⟨[A],[B]⟩:Loop),(⟨[r,h],[s,x]⟩:Loop)]).bind λC=>(sub d.nest (wr (a+1)) (d.nest.length:Int)).bind λD=>(app C D).bind λF=>(jA n k c 1 [(⟨F,d.body⟩:Part)]).bind λi=>aa (i.1,i.2)) λH=>bif aj (e.1<e.2.1) then(wu b).bind λQ=>H (wr (Int.tdiv (wr ((wr ((wr (e.2.1-e.1))+b))-1)) b)) else H 0) λl=>(lT n k c a).bind λR=>bif !R then l ab else(aB k.parts c).bind λW=>bif aj ((4:Int)<=W.nest.length) then l ab else bif aj (b<1) then l ab else l (aj ((6:Int)<b)))
def zo(n:Nat)(a b:aE):Option Bool:=(aQ (fun(d:Bool)=>aa d) λc=>bif aj (a.const=b.const) then(xK n a.aK b.aK).bind λe=>c e else c al)
def zl(n:Nat)(a:List aE)(b:List aE):Option Bool:=(bif !decide ((a.length:Int)=b.length) then aa al else bA (λd (c:Int)=>bif aj (c<a.length) then(aB a c).bind λe=>(aB b c).bind λh=>(zo n e h).bind λi=>bif !i then aa al else d (wr (c+1)) else aa ab) n 0)
def ET(n:Nat)(a:List Loop)(b:List Loop):Option Bool:=(bif !decide ((a.length:Int)=b.length) then aa al else bA (λi (c:Int)=>bif aj (c<a.length) then aQ (fun(k:Bool)=>bif k then aa al else i (wr (c+1))) (λd=>(aB a c).bind λe=>(aB b c).bind λh=>(zl n e.bo h.bo).bind λl=>bif !l then d ab else(zl n e.aL h.aL).bind λm=>d (!m)) else aa ab) n 0)
def pM(n:Nat)(p:Prog)(a:Int):Option (Prog×Bool):=((jf n p).bind λb=>aQ (fun(A:Bool)=>bif A then aa ((⟨[],[]⟩:Prog),al) else(pz n b).bind λy=>(xl n b).bind λz=>bA (λo (c:Int)=>bif aj (c<z.length) then(aB z c).bind λe=>(aB y e.eQ).bind λh=>(aB y e.eR).bind λi=>aQ (fun(q:Bool)=>bif q then aa ((⟨[],[]⟩:Prog),al) else o (wr (c+1))) (λd=>bif aj (h.part=a) then bif aj (i.part=wr (a+1)) then(Ag n i.da h.da).bind λr=>d r else d al else d al) else(aB b.parts a).bind λk=>(app [] k.body).bind λs=>(aB b.parts (wr (a+1))).bind λw=>(app s w.body).bind λx=>(jA n b a 2 [(⟨k.nest,x⟩:Part)]).bind λl=>aa (l.1,l.2)) n 0) λm=>(lF n b).bind λB=>bif !B then m ab else bif aj (a<0) then m ab else bif aj (wr ((b.parts.length:Int)-1)<=a) then m ab else(aB b.parts a).bind λC=>(aB b.parts (wr (a+1))).bind λD=>(ET n C.nest D.nest).bind λF=>m (!F))
def pw(n:Nat)(p:Prog)(b a:Int):Option (Prog×Bool):=((jf n p).bind λe=>aQ (fun(y:Bool)=>bif y then aa ((⟨[],[]⟩:Prog),al) else(pz n e).bind λw=>(xl n e).bind λx=>bA (λz (o:Int)=>bif aj (o<x.length) then(aB x o).bind λh=>(aB w h.eQ).bind λi=>(aB w h.eR).bind λk=>aQ (fun(q:Bool)=>bif q then aa ((⟨[],[]⟩:Prog),al) else z (wr (o+1))) (λd=>bif aj (i.part=b) then bif aj (k.part=b) then bif aj (a<=i.stmt) then d (aj (k.stmt<a)) else d al else d al else d al) else(aB e.parts b).bind λc=>(sub c.body 0 a).bind λr=>(sub c.body a c.body.length).bind λs=>(jA n e b 1 [(⟨c.nest,r⟩:Part),(⟨c.nest,s⟩:Part)]).bind λl=>aa (l.1,l.2)) n 0) λm=>(lF n e).bind λA=>bif !A then m ab else bif aj (b<0) then m ab else bif aj ((e.parts.length:Int)<=b) then m ab else bif aj (a<1) then m ab else(aB e.parts b).bind λB=>m (aj ((B.body.length:Int)<=a)))
def wC(n:Nat)(p:Prog)(b a:Int):Option (Prog×Bool):=((jf n p).bind λh=>(lT n h b 0).bind λs=>bif !s then aa ((⟨[],[]⟩:Prog),al) else(aB h.parts b).bind λc=>(aB c.nest 0).bind λw=>(wY n w).bind λd=>aQ (fun(x:Bool)=>bif x then aa ((⟨[],[]⟩:Prog),al) else(lK n d.1).bind λy=>(lK n a).bind λz=>(sub c.nest 1 c.nest.length).bind λi=>(app [(⟨[y],[z]⟩:Loop)] i).bind λk=>(lK n a).bind λl=>(lK n d.2.1).bind λm=>(sub c.nest 1 c.nest.length).bind λo=>(app [(⟨[l],[m]⟩:Loop)] o).bind λq=>(jA n h b 1 [(⟨k,c.body⟩:Part),(⟨q,c.body⟩:Part)]).bind λe=>aa (e.1,e.2)) λr=>bif !d.2.2 then r ab else bif aj (a<d.1) then r ab else r (aj (d.2.1<a)))
def w2(n:Nat)(a:List Int)(b:List Int):Option Bool:=(bA (λd (c:Int)=>bif aj (c<a.length) then(aB a c).bind λe=>(uu n b e).bind λh=>bif h then aa ab else d (wr (c+1)) else aa al) n 0)
def AO(n:Nat)(p:Prog):Option Int:=(bA (λc ((b,a):Int×Int)=>bif aj (a<p.bb.length) then(aB p.bb a).bind λd=>(xG n d).bind λe=>c (wr (b+e),wr (a+1)) else aa b) n (0,0))
def tC(n:Nat)(p:Prog)(d:Int)(a:Bool):Option (List Int):=((AO n p).bind λA=>(mk A al).bind λB=>(pz n p).bind λy=>(xk n p).bind λz=>bA (λC ((e,h):(List Bool)×Int)=>bif aj (h<y.length) then aQ (fun(m:(List Bool))=>C (m,wr (h+1))) (λo=>(aB y h).bind λq=>bif !decide (q.part=d) then o e else bif a then(aB z h).bind λi=>(aB e i.write).bind λD=>(ch e i.write ab).bind λr=>o r else bA (λs ((b,c):(List Bool)×Int)=>(aB z h).bind λk=>bif aj (c<k.reads.length) then(aB k.reads c).bind λl=>(aB b l).bind λF=>(ch b l ab).bind λw=>s (w,wr (c+1)) else o b) n (e,0)) else(wy n e).bind λx=>aa x) n (B,0))
def Dx(n:Nat)(p:Prog)(a b:Int):Option Bool:=(aQ (fun(m:Bool)=>bif m then aa al else(tC n p a ab).bind λk=>(tC n p b ab).bind λl=>aQ (fun(d:Bool)=>aa d) λe=>(w2 n k l).bind λo=>bif !o then(tC n p b al).bind λq=>(w2 n k q).bind λr=>bif !r then(tC n p a al).bind λh=>(w2 n l h).bind λi=>e (!i) else e al else e al) λc=>(lF n p).bind λs=>bif !s then c ab else bif aj (a<0) then c ab else bif aj (b<0) then c ab else bif aj ((p.parts.length:Int)<=a) then c ab else bif aj ((p.parts.length:Int)<=b) then c ab else c (aj (a=b)))
def pL(n:Nat)(p:Prog)(a:Int):Option (Prog×Bool):=((jf n p).bind λb=>(Dx n b a (wr (a+1))).bind λd=>bif !d then aa ((⟨[],[]⟩:Prog),al) else(aB b.parts (wr (a+1))).bind λe=>(aB b.parts a).bind λh=>(jA n b a 2 [e,h]).bind λc=>aa (c.1,c.2))
def rj(n:Nat)(p:Prog)(s:Step):Option (Prog×Bool):=((jf n p).bind λc=>(ER n s).bind λx=>bif !x then aa ((⟨[],[]⟩:Prog),al) else bif aj (s.kind=1) then(vX n c s.part s.a).bind λk=>aa (k.1,k.2) else bif aj (s.kind=2) then(vW n c s.part s.a).bind λl=>aa (l.1,l.2) else bif aj (s.kind=3) then(wK n c s.part s.a s.b).bind λm=>aa (m.1,m.2) else bif aj (s.kind=4) then(wD n c s.part s.a s.b).bind λo=>aa (o.1,o.2) else bif aj (s.kind=5) then(wz n c s.part s.a s.b).bind λq=>aa (q.1,q.2) else bif aj (s.kind=6) then(pM n c s.part).bind λr=>aa (r.1,r.2) else bif aj (s.kind=7) then(pw n c s.part s.a).bind λw=>aa (w.1,w.2) else bif aj (s.kind=8) then(wC n c s.part s.a).bind λd=>aa (d.1,d.2) else bif aj (s.kind=9) then(pL n c s.part).bind λe=>aa (e.1,e.2) else bif aj (s.kind=10) then(pT n c s.part).bind λh=>aa (h.1,h.2) else(vY n c).bind λi=>aa (i.1,i.2))
def xz(n:Nat)(a:List Int):Option (List Int):=((mk a.length 0).bind λd=>bA (λe ((c,b):(List Int)×Int)=>bif aj (b<a.length) then(aB a b).bind λh=>(aB c b).bind λk=>(ch c b h).bind λi=>e (i,wr (b+1)) else aa c) n (d,0))
def AH(n:Nat)(a:cC):Option cC:=((xz n a.b8).bind λb=>aa (⟨a.name,b⟩:cC))
def Fw(n:Nat)(a:List cC):Option (List cC):=((mk a.length (⟨[],[]⟩:cC)).bind λd=>bA (λe ((c,b):(List cC)×Int)=>bif aj (b<a.length) then(aB a b).bind λh=>(AH n h).bind λi=>(aB c b).bind λl=>(ch c b i).bind λk=>e (k,wr (b+1)) else aa c) n (d,0))
def zL(n:Nat)(a:aE):Option aE:=((xz n a.aK).bind λb=>aa (⟨b,a.const⟩:aE))
def zw(n:Nat)(a:List aE):Option (List aE):=((mk a.length (⟨[],0⟩:aE)).bind λd=>bA (λe ((c,b):(List aE)×Int)=>bif aj (b<a.length) then(aB a b).bind λh=>(zL n h).bind λi=>(aB c b).bind λl=>(ch c b i).bind λk=>e (k,wr (b+1)) else aa c) n (d,0))
def BL(n:Nat)(a:Loop):Option Loop:=((zw n a.bo).bind λb=>(zw n a.aL).bind λc=>aa (⟨b,c⟩:Loop))
def FZ(n:Nat)(a:List Loop):Option (List Loop):=((mk a.length (⟨[],[]⟩:Loop)).bind λd=>bA (λe ((c,b):(List Loop)×Int)=>bif aj (b<a.length) then(aB a b).bind λh=>(BL n h).bind λi=>(aB c b).bind λl=>(ch c b i).bind λk=>e (k,wr (b+1)) else aa c) n (d,0))
def zM(n:Nat)(a:cx):Option cx:=((zw n a.a7).bind λb=>aa (⟨a.array,b⟩:cx))
def F0(n:Nat)(self:Expr->Option Expr)(a:List Expr):Option (List Expr):=((mk a.length (⟨0,0,(⟨[],0⟩:aE),(⟨[],[]⟩:cx),[]⟩:Expr)).bind λd=>bA (λe ((c,b):(List Expr)×Int)=>bif aj (b<a.length) then(aB a b).bind λh=>(self h).bind λi=>(aB c b).bind λl=>(ch c b i).bind λk=>e (k,wr (b+1)) else aa c) n (d,0))
def qm:Nat->Expr->Option Expr
 |0,_=>ak
 |n+1,a=>((zL n a.index).bind λb=>(zM n a.read).bind λc=>(F0 n (qm n) a.a1).bind λd=>aa (⟨a.kind,a.num,b,c,d⟩:Expr))
def BI(n:Nat)(a:Stmt):Option Stmt:=((zM n a.write).bind λb=>(qm n a.value).bind λc=>aa (⟨b,c⟩:Stmt))
def F9(n:Nat)(a:List Stmt):Option (List Stmt):=((mk a.length (⟨(⟨[],[]⟩:cx),(⟨0,0,(⟨[],0⟩:aE),(⟨[],[]⟩:cx),[]⟩:Expr)⟩:Stmt)).bind λd=>bA (λe ((c,b):(List Stmt)×Int)=>bif aj (b<a.length) then(aB a b).bind λh=>(BI n h).bind λi=>(aB c b).bind λl=>(ch c b i).bind λk=>e (k,wr (b+1)) else aa c) n (d,0))
def BK(n:Nat)(a:Part):Option Part:=((FZ n a.nest).bind λb=>(F9 n a.body).bind λc=>aa (⟨b,c⟩:Part))
def FY(n:Nat)(a:List Part):Option (List Part):=((mk a.length (⟨[],[]⟩:Part)).bind λd=>bA (λe ((c,b):(List Part)×Int)=>bif aj (b<a.length) then(aB a b).bind λh=>(BK n h).bind λi=>(aB c b).bind λl=>(ch c b i).bind λk=>e (k,wr (b+1)) else aa c) n (d,0))
def nz(n:Nat)(a:Prog):Option Prog:=((Fw n a.bb).bind λb=>(FY n a.parts).bind λc=>aa (⟨b,c⟩:Prog))
def BJ(n:Nat)(a:Step):Option Step:=(aa a)
def Fe(n:Nat)(s:Step):Option (List Int):=(aa [s.part,s.a,s.b])
def Fc(n:Nat)(v:Int):Option Bool:=(aa (!decide (v=0)))
def BX(n:Nat)(a:Int):Option Int:=(aQ (fun(e:Bool)=>bif e then aa 2 else aQ (fun(h:Bool)=>bif h then aa 3 else aQ (fun(i:Bool)=>bif i then aa 1 else bif aj (a=11) then aa 0 else aa (-1)) λc=>bif aj (a=6) then c (aj (a=6)) else bif aj (a=9) then c (aj (a=9)) else c (aj (a=10))) λd=>bif aj (a=3) then d (aj (a=3)) else bif aj (a=4) then d (aj (a=4)) else d (aj (a=5))) λb=>bif aj (a=1) then b (aj (a=1)) else bif aj (a=2) then b (aj (a=2)) else bif aj (a=7) then b (aj (a=7)) else b (aj (a=8)))
def y6(n:Nat)(s:List Int)(f:Int->Option Bool):Option Int:=(bA (λb (a:Int)=>bif aj (a<s.length) then(aB s a).bind λc=>(f c).bind λd=>bif d then aa a else b (wr (a+1)) else aa (-1)) n 0)
def oA(n:Nat)(s:List Int)(f:Int->Option Bool):Option Bool:=((y6 n s f).bind λa=>aa (aj ((0:Int)<=a)))
def A3(n:Nat)(s:Step):Option Bool:=((BX n s.kind).bind λa=>aQ (fun(d:Bool)=>aa d) λb=>bif aj ((0:Int)<=a) then(Fe n s).bind λc=>(sub c a c.length).bind λe=>(oA n e λh=>Fc n h).bind λi=>b (!i) else b al)
def fz(n:Nat)(a low high:Int):Option Bool:=(aQ (fun(c:Bool)=>aa c) λb=>bif aj (low<=a) then b (aj (a<=high)) else b al)
def q'(n:Nat)(a:Int):Option Bool:=((fz n a 1 6).bind λb=>aa (!b))
def Aj(n:Nat)(s:List UInt8):Option Bool:=(aQ (fun(b:Bool)=>aa b) λa=>bif aj ((s.length:Int)=1) then(zc [65,66,67,68] s).bind λc=>a c else a al)
def Ax(n:Nat)(a:List cC):Option Bool:=(bA (λk (d:Int)=>bif aj (d<a.length) then(aB a d).bind λb=>aQ (fun(e:Bool)=>bif e then aa al else k (wr (d+1))) (λc=>(Aj n b.name).bind λl=>bif !l then c ab else bif aj ((0:Int)<d) then(aB a (wr (d-1))).bind λm=>bif !Op.bytesLess m.name b.name then c ab else(fz n b.b8.length 1 2).bind λo=>bif !o then c ab else(oA n b.b8 λh=>q' n h).bind λi=>c i else(fz n b.b8.length 1 2).bind λp=>bif !p then c ab else(oA n b.b8 λh=>q' n h).bind λq=>c q) else aa (aj ((a.length:Int)<=4))) n 0)
def Dy(n:Nat)(s:List aE)(f:aE->Option Bool):Option Int:=(bA (λb (a:Int)=>bif aj (a<s.length) then(aB s a).bind λc=>(f c).bind λd=>bif d then aa a else b (wr (a+1)) else aa (-1)) n 0)
def pv(n:Nat)(s:List aE)(f:aE->Option Bool):Option Bool:=((Dy n s f).bind λa=>aa (aj ((0:Int)<=a)))
def y7(n:Nat)(c:Int):Option Bool:=((fz n c (-9) 9).bind λa=>aa (!a))
def Ge(n:Nat)(a:Int):Option Bool:=((fz n a (-99) 99).bind λb=>aa b)
def wg(n:Nat)(a:aE):Option Bool:=(aQ (fun(c:Bool)=>aa c) λb=>bif aj ((a.aK.length:Int)=4) then(Ge n a.const).bind λd=>bif d then(oA n a.aK λe=>y7 n e).bind λh=>b (!h) else b al else b al)
def f5(n:Nat)(a:aE):Option Int:=(bA (λd (b:Int)=>aQ (fun(e:Bool)=>bif e then d (wr (b-1)) else aa b) λc=>bif aj ((0:Int)<b) then(aB a.aK (wr (b-1))).bind λh=>c (aj (h=0)) else c al) n a.aK.length)
def wj(n:Nat)(a:aE)(b:Int):Option Bool:=(aQ (fun(d:Bool)=>aa d) λc=>(wg n a).bind λe=>bif !e then c ab else(f5 n a).bind λh=>c (aj (b<h)))
def zY(n:Nat)(a:List aE)(b:Int):Option Bool:=(aQ (fun(d:Bool)=>aa d) λc=>(fz n a.length 1 2).bind λe=>bif e then(pv n a λh=>wj n h b).bind λi=>c (!i) else c al)
def Es(n:Nat)(a:List Loop):Option Bool:=(bA (λe (b:Int)=>bif aj (b<a.length) then(aB a b).bind λc=>aQ (fun(h:Bool)=>bif h then aa al else e (wr (b+1))) (λd=>(zY n c.bo b).bind λi=>bif !i then d ab else(zY n c.aL b).bind λk=>d (!k)) else aa (aj ((a.length:Int)<=4))) n 0)
def oC(n:Nat)(a:aE)(b:List Int):Option Int:=(bA (λe ((d,c):Int×Int)=>bif aj (c<b.length) then(aB b c).bind λh=>(aB a.aK c).bind λi=>e (wr (d+(wr (i*h))),wr (c+1)) else aa d) n (a.const,0))
def Eu(n:Nat)(l:Loop)(a:List Int):Option (Int×Int):=((aB l.bo 0).bind λm=>(oC n m a).bind λo=>(aB l.aL 0).bind λp=>(oC n p a).bind λq=>bA (λr ((k,d):Int×Int)=>bif aj (d<l.bo.length) then(aB l.bo d).bind λs=>(oC n s a).bind λw=>r (max k w,wr (d+1)) else bA (λe ((c,b):Int×Int)=>bif aj (b<l.aL.length) then(aB l.aL b).bind λh=>(oC n h a).bind λi=>e (min c i,wr (b+1)) else aa (k,c)) n (q,0)) n (o,0))
def re:Nat->nk->(List Int)->Option (Bool×nk)
 |0,_,_=>ak
 |n+1,a,b=>(bif aj ((b.length:Int)=a.nest.length) then(jG b).bind λy=>(app a.out [y]).bind λw=>aa (aj ((w.length:Int)<=120),(⟨a.nest,a.steps,w⟩:nk)) else(aB a.nest b.length).bind λz=>(Eu n z b).bind λx=>bA (λl ((m,k,o,p):(List Loop)×Int×(List (List Int))×Int)=>bif aj (p<x.2) then aQ (fun((d,e,h,q):(List Loop)×Int×(List (List Int))×Bool)=>bif q then aa (al,(⟨d,e,h⟩:nk)) else l (d,e,h,wr (p+1))) (λi=>bif aj ((1200:Int)<wr ((wr (k+1))+1)) then i (m,wr (k+1),o,ab) else(jG b).bind λr=>(app r [p]).bind λs=>(re n (⟨m,wr (k+1),o⟩:nk) s).bind λc=>i (c.2.nest,c.2.steps,c.2.out, !c.1)) else aa (ab,(⟨m,k,o⟩:nk))) n (a.nest,a.steps,a.out,x.1))
def Ed(n:Nat)(a:List Loop):Option ((List (List Int))×Bool):=((Es n a).bind λc=>bif !c then aa ([],al) else(re n (⟨a,0,[]⟩:nk) []).bind λb=>bif !b.1 then aa ([],al) else aa (b.2.out,ab))
def Kf(n:Nat)(s:List Stmt)(f:Stmt->Option Bool):Option Int:=(bA (λb (a:Int)=>bif aj (a<s.length) then(aB s a).bind λc=>(f c).bind λd=>bif d then aa a else b (wr (a+1)) else aa (-1)) n 0)
def Dv(n:Nat)(s:List Stmt)(f:Stmt->Option Bool):Option Bool:=((Kf n s f).bind λa=>aa (aj ((0:Int)<=a)))
def zq(n:Nat)(s:aE)(a:Int):Option Bool:=(aQ (fun(c:Bool)=>aa c) λb=>(wg n s).bind λd=>bif !d then b ab else(f5 n s).bind λe=>b (aj (a<e)))
def zZ(n:Nat)(a:cx)(b:Int):Option Bool:=(aQ (fun(d:Bool)=>aa d) λc=>(Aj n a.array).bind λe=>bif e then(fz n a.a7.length 1 2).bind λh=>bif h then(pv n a.a7 λi=>zq n i b).bind λk=>c (!k) else c al else c al)
def zV(n:Nat)(a:aE):Option Bool:=(aQ (fun(c:Bool)=>aa c) λb=>bif aj ((a.aK.length:Int)=0) then b (aj (a.const=0)) else b al)
def tA(n:Nat)(a:cx):Option Bool:=(aQ (fun(c:Bool)=>aa c) λb=>bif aj (a.array=[]) then b (aj ((a.a7.length:Int)=0)) else b al)
def sq(n:Nat)(a:Int):Option Bool:=((fz n a 4 6).bind λb=>aa b)
def pO:Nat->Expr->Int->Int->Int->Option (Bool×Int)
 |0,_,_,_,_=>ak
 |n+1,e,a,b,count=>(aQ (fun(K:Bool)=>bif K then aa (al,wr (count+1)) else aQ (fun(p:Bool)=>bif p then aa (al,wr (count+1)) else bif aj (e.kind=1) then aQ (fun(q:Bool)=>aa (q,wr (count+1))) (λi=>(fz n e.num 0 99).bind λr=>bif r then i (aj ((e.a1.length:Int)=0)) else i al) else bif aj (e.kind=2) then aQ (fun(s:Bool)=>aa (s,wr (count+1))) (λd=>(wg n e.index).bind λw=>bif w then(f5 n e.index).bind λx=>bif aj (x<=a) then d (aj ((e.a1.length:Int)=0)) else d al else d al) else bif aj (e.kind=3) then aQ (fun(y:Bool)=>aa (y,wr (count+1))) (λk=>(zZ n e.read a).bind λz=>bif z then k (aj ((e.a1.length:Int)=0)) else k al) else aQ (fun(A:Bool)=>bif A then aa (al,wr (count+1)) else aQ (fun((B,C):Int×Bool)=>aa (C,B)) λl=>(aB e.a1 0).bind λD=>(pO n D a (wr (b+1)) (wr (count+1))).bind λh=>bif h.1 then(aB e.a1 1).bind λF=>(pO n F a (wr (b+1)) h.2).bind λm=>l (m.2,m.1) else l (h.2,al)) λo=>(sq n e.kind).bind λG=>bif !G then o ab else o (!decide ((e.a1.length:Int)=2))) λc=>bif !decide (e.kind=1) then bif !decide (e.num=0) then c ab else bif !decide (e.kind=2) then(zV n e.index).bind λL=>bif !L then c ab else bif !decide (e.kind=3) then(tA n e.read).bind λQ=>c (!Q) else c al else bif !decide (e.kind=3) then(tA n e.read).bind λR=>c (!R) else c al else bif !decide (e.kind=2) then(zV n e.index).bind λW=>bif !W then c ab else bif !decide (e.kind=3) then(tA n e.read).bind λX=>c (!X) else c al else bif !decide (e.kind=3) then(tA n e.read).bind λf=>c (!f) else c al) λH=>bif aj ((12:Int)<wr (count+1)) then H ab else H (aj ((5:Int)<b)))
def EJ(n:Nat)(s:Stmt)(a:Int):Option Bool:=(aQ (fun((i,d):Int×Bool)=>aa d) λb=>(fz n a 0 4).bind λe=>bif e then(zZ n s.write a).bind λh=>bif h then(pO n s.value a 1 0).bind λc=>b (c.2,c.1) else b (0,al) else b (0,al))
def yE(n:Nat)(s:Stmt)(a:Part):Option Bool:=((EJ n s a.nest.length).bind λb=>aa (!b))
def zF(n:Nat)(a:Int):Option Bool:=((fz n a (-9999) 9999).bind λb=>aa (!b))
def A4(n:Nat)(a:List Int):Option Bool:=(aQ (fun(c:Bool)=>aa c) λb=>bif aj ((a.length:Int)<=4) then(oA n a λd=>zF n d).bind λe=>b (!e) else b al)
def rb:Nat->Expr->Option (List cx)
 |0,_=>ak
 |n+1,e=>(bif aj (e.kind=3) then aa [e.read] else bA (λc ((b,a):(List cx)×Int)=>bif aj (a<e.a1.length) then(aB e.a1 a).bind λd=>(rb n d).bind λh=>(app b h).bind λi=>c (i,wr (a+1)) else aa b) n ([],0))
def Ef(n:Nat)(a:cC):Option Int:=(bA (λd ((c,b):Int×Int)=>bif aj (b<a.b8.length) then(aB a.b8 b).bind λe=>d (wr (c*e),wr (b+1)) else aa c) n (1,0))
def th(n:Nat)(p:Prog)(a:cx)(b:List Int):Option Int:=(bA (λo ((l,i):Int×Int)=>bif aj (i<p.bb.length) then(aB p.bb i).bind λe=>bif !decide (e.name=a.array) then(Ef n e).bind λq=>o (wr (l+q),wr (i+1)) else bif !decide ((a.a7.length:Int)=e.b8.length) then aa (-1) else bA (λr ((m,h):Int×Int)=>bif aj (h<a.a7.length) then(aB a.a7 h).bind λs=>(oC n s b).bind λc=>(aB e.b8 h).bind λd=>(fz n c 0 (wr (d-1))).bind λk=>bif !k then aa (-1) else r (wr ((wr (m*d))+c),wr (h+1)) else aa (wr (l+m))) n (0,0) else aa (-1)) n (0,0))
def y0(n:Nat)(a:cx)(b:Prog)(c:List Int):Option Bool:=((th n b a c).bind λd=>aa (aj (d<0)))
def Ka(n:Nat)(s:List cx)(f:cx->Option Bool):Option Int:=(bA (λb (a:Int)=>bif aj (a<s.length) then(aB s a).bind λc=>(f c).bind λd=>bif d then aa a else b (wr (a+1)) else aa (-1)) n 0)
def Dr(n:Nat)(s:List cx)(f:cx->Option Bool):Option Bool:=((Ka n s f).bind λa=>aa (aj ((0:Int)<=a)))
def DH(n:Nat)(p:Prog)(s:Stmt)(a:List Int):Option Bool:=(aQ (fun(c:Bool)=>aa c) λb=>(th n p s.write a).bind λd=>bif aj ((0:Int)<=d) then(rb n s.value).bind λe=>(Dr n e λh=>y0 n h p a).bind λi=>b (!i) else b al)
def vj(n:Nat)(p:Prog):Option ((List cO)×Bool):=(aQ (fun(D:Bool)=>bif D then aa ([],al) else bA (λF ((l,k):(List cO)×Int)=>bif aj (k<p.parts.length) then(aB p.parts k).bind λe=>(Ed n e.nest).bind λm=>aQ (fun(o:Bool)=>bif o then aa ([],al) else bA (λq ((h,b):(List cO)×Int)=>bif aj (b<m.1.length) then(aB m.1 b).bind λc=>(A4 n c).bind λr=>bif !r then aa ([],al) else bA (λs ((i,a):(List cO)×Int)=>bif aj (a<e.body.length) then(aB e.body a).bind λw=>(DH n p w c).bind λx=>bif !x then aa ([],al) else(jG c).bind λy=>(app i [(⟨k,a,y⟩:cO)]).bind λz=>s (z,wr (a+1)) else q (i,wr (b+1))) n (h,0) else F (h,wr (k+1))) n (l,0)) (λd=>bif !m.2 then d ab else(fz n e.body.length 1 4).bind λA=>bif !A then d ab else(Dv n e.body λG=>yE n G e).bind λB=>d B) else aa (l,aj ((l.length:Int)<=120))) n ([],0)) λC=>(Ax n p.bb).bind λH=>bif !H then C ab else C (aj ((4:Int)<p.parts.length)))
def vU(n:Nat)(p:Prog):Option Bool:=((vj n p).bind λa=>aa a.2)
def k4(n:Nat)(a:aE):Option aE:=((jG a.aK).bind λb=>aa (⟨b,a.const⟩:aE))
def rk(n:Nat)(a:cx)(change:aE->Option aE):Option cx:=(bA (λd ((c,b):(List aE)×Int)=>bif aj (b<a.a7.length) then(aB a.a7 b).bind λe=>(change e).bind λh=>(app c [h]).bind λi=>d (i,wr (b+1)) else aa (⟨a.array,c⟩:cx)) n ([],0))
def j':Nat->Expr->(aE->Option aE)->Option Expr
 |0,_,_=>ak
 |n+1,e,change=>(aQ (fun((o,p,q,r):(List Int)×Int×(List UInt8)×(List aE))=>bA (λa ((k,b):(List Expr)×Int)=>bif aj (b<e.a1.length) then(aB e.a1 b).bind λc=>(j' n c change).bind λd=>(app k [d]).bind λh=>a (h,wr (b+1)) else aa (⟨e.kind,e.num,(⟨o,p⟩:aE),(⟨q,r⟩:cx),k⟩:Expr)) n ([],0)) λi=>bif aj (e.kind=2) then(change e.index).bind λl=>i (l.aK,l.const,[],[]) else bif aj (e.kind=3) then(rk n e.read change).bind λm=>i ([],0,m.array,m.a7) else i ([],0,[],[]))
def oQ(n:Nat)(s:Stmt)(change:aE->Option aE):Option Stmt:=((rk n s.write change).bind λa=>(j' n s.value change).bind λb=>aa (⟨a,b⟩:Stmt))
def w4(n:Nat)(s:Stmt):Option Stmt:=((oQ n s λa=>k4 n a).bind λb=>aa b)
def pC(n:Nat)(a:List aE):Option (List aE):=(bA (λd ((c,b):(List aE)×Int)=>bif aj (b<a.length) then(aB a b).bind λe=>(k4 n e).bind λh=>(app c [h]).bind λi=>d (i,wr (b+1)) else aa c) n ([],0))
def ry(n:Nat)(a:List Loop):Option (List Loop):=(bA (λe ((c,b):(List Loop)×Int)=>bif aj (b<a.length) then(aB a b).bind λd=>(pC n d.bo).bind λh=>(pC n d.aL).bind λi=>(app c [(⟨h,i⟩:Loop)]).bind λk=>e (k,wr (b+1)) else aa c) n ([],0))
def rv(n:Nat)(p:Part):Option Part:=((ry n p.nest).bind λc=>bA (λd ((b,a):(List Stmt)×Int)=>bif aj (a<p.body.length) then(aB p.body a).bind λe=>(w4 n e).bind λh=>(app b [h]).bind λi=>d (i,wr (a+1)) else aa (⟨c,b⟩:Part)) n ([],0))
def pA(n:Nat)(p:Prog):Option Prog:=(bA (λm ((i,a):(List cC)×Int)=>bif aj (a<p.bb.length) then(aB p.bb a).bind λk=>(jG k.b8).bind λo=>(app i [(⟨k.name,o⟩:cC)]).bind λq=>m (q,wr (a+1)) else bA (λb ((l,c):(List Part)×Int)=>bif aj (c<p.parts.length) then(aB p.parts c).bind λd=>(rv n d).bind λe=>(app l [e]).bind λh=>b (h,wr (c+1)) else aa (⟨i,l⟩:Prog)) n ([],0)) n ([],0))
def lI(n:Nat)(p:Prog):Option (Prog×Bool):=((vU n p).bind λa=>bif !a then aa ((⟨[],[]⟩:Prog),al) else(pA n p).bind λb=>aa (b,ab))
def k3(n:Nat)(p:Prog)(a:Int):Option Bool:=((fz n a 0 (wr ((p.parts.length:Int)-1))).bind λb=>aa b)
def Kh(n:Nat)(p:Prog)(a b:Int):Option Bool:=(aQ (fun(d:Bool)=>aa d) λc=>(k3 n p a).bind λe=>bif e then(aB p.parts a).bind λh=>(fz n b 0 (wr ((h.nest.length:Int)-1))).bind λi=>c i else c al)
def iv(n:Nat)(p:Prog)(a b:Int):Option (Prog×Bool):=(aQ (fun(e:Bool)=>bif e then aa ((⟨[],[]⟩:Prog),al) else(pA n p).bind λd=>(aB d.parts a).bind λl=>aa (d,ab)) λc=>(vU n p).bind λh=>bif !h then c ab else(k3 n p a).bind λi=>bif !i then c ab else bif !decide (b=(-1)) then(Kh n p a b).bind λk=>c (!k) else c al)
def q0(n:Nat)(a:aE)(b:Int):Option Bool:=((aB a.aK b).bind λc=>aa (!decide (c=0)))
def Et(n:Nat)(l:Loop)(v:Int):Option Bool:=(aQ (fun(c:Bool)=>aa c) λb=>(pv n l.bo λa=>q0 n a v).bind λd=>bif d then b ab else(pv n l.aL λa=>q0 n a v).bind λe=>b e)
def DS(n:Nat)(p:Prog)(x:cO):Option Stmt:=((aB p.parts x.part).bind λa=>(aB a.body x.stmt).bind λb=>aa b)
def DC(n:Nat)(p:Prog)(x:cO):Option ((List Int)×Int):=((DS n p x).bind λc=>(rb n c.value).bind λd=>bA (λh ((e,a):(List Int)×Int)=>bif aj (a<d.length) then(aB d a).bind λi=>(th n p i x.da).bind λk=>(app e [k]).bind λl=>h (l,wr (a+1)) else(th n p c.write x.da).bind λb=>aa (e,b)) n ([],0))
def p8(n:Nat)(p:Prog):Option ((Option oo)×Bool):=((vj n p).bind λa=>bif !a.2 then aa (ak,al) else bA (λk ((e,h,b):(List (List Int))×(List Int)×Int)=>bif aj (b<a.1.length) then(aB a.1 b).bind λl=>(DC n p l).bind λi=>(app e [i.1]).bind λc=>(app h [i.2]).bind λd=>k (c,d,wr (b+1)) else aa (aa (⟨p,a.1,e,h⟩:oo),ab)) n ([],[],0))
def EG(n:Nat)(b:List Int)(c:List Int):Option Bool:=(bif !decide ((b.length:Int)=c.length) then aa al else bA (λd (a:Int)=>bif aj (a<b.length) then(aB b a).bind λe=>(aB c a).bind λh=>bif !decide (e=h) then aa al else d (wr (a+1)) else aa ab) n 0)
def Fa(n:Nat)(s:List Int)(v:Int):Option Int:=(bA (λb (a:Int)=>bif aj (a<s.length) then(aB s a).bind λc=>bif aj (v=c) then aa a else b (wr (a+1)) else aa (-1)) n 0)
def vT(n:Nat)(s:List Int)(v:Int):Option Bool:=((Fa n s v).bind λa=>aa (aj ((0:Int)<=a)))
def DG(n:Nat)(t:oo)(a b:Int):Option Int:=(aQ (fun(k:Int)=>aQ (fun(c:Int)=>aQ (fun(e:Int)=>aa e) λd=>(aB t.i' a).bind λh=>(aB t.i' b).bind λi=>bif aj (h=i) then d (wr (c+4)) else d c) λl=>(aB t.reads a).bind λo=>(aB t.i' b).bind λp=>(vT n o p).bind λq=>bif q then l (wr (k+2)) else l k) λm=>(aB t.reads b).bind λr=>(aB t.i' a).bind λs=>(vT n r s).bind λw=>bif w then m (wr (0+1)) else m 0)
def vV(n:Nat)(t:oo):Option (List fW):=(bA (λl ((i,a):(List fW)×Int)=>bif aj (a<t.list.length) then bA (λm ((d,c):(List fW)×Int)=>bif aj (c<t.list.length) then aQ (fun(e:(List fW))=>m (e,wr (c+1))) (λk=>(DG n t a c).bind λb=>bif aj ((0:Int)<b) then(app d [(⟨a,c,b⟩:fW)]).bind λh=>k h else k d) else l (d,wr (a+1))) n (i,wr (a+1)) else aa i) n ([],0))
def DM(n:Nat)(x:Int):Option Bool:=(aa (!decide (x=x)))
def DB(n:Nat)(x y:Int):Option Int:=((DM n x).bind λb=>(DM n y).bind λa=>bif b then bif a then aa 0 else aa (-1) else bif a then aa 1 else bif aj (x<y) then aa (-1) else bif aj (y<x) then aa 1 else aa 0)
def KC(n:Nat)(b:List Int)(c:List Int):Option Int:=(bA (λe (a:Int)=>bif aj (a<b.length) then(aB b a).bind λh=>bif aj ((c.length:Int)<=a) then aa 1 else(aB c a).bind λi=>(DB n h i).bind λd=>bif !decide (d=0) then aa d else e (wr (a+1)) else bif aj ((b.length:Int)<c.length) then aa (-1) else aa 0) n 0)
def Kv(n:Nat)(a:Int):Option Bool:=(aa (!decide (a=0)))
def Ee(n:Nat)(d:List Int):Option Int:=((y6 n d λa=>Kv n a).bind λb=>aa b)
def Ds(n:Nat)(t:oo)(c:Int):Option (List (List Int)):=((vV n t).bind λy=>bA (λA ((k,l):(List (List Int))×Int)=>bif aj (l<y.length) then aQ (fun((m,B,C,D,F,G,H,K,L,Q):(List (List Int))×Int×Int×Int×Int×Int×(List Int)×Int×Int×(List Int))=>A (m,wr (l+1))) (λz=>(aB y l).bind λd=>(aB t.list d.eQ).bind λe=>(aB t.list d.eR).bind λa=>aQ (fun(o:Bool)=>bif o then z (k,d.eQ,d.eR,d.kinds,e.part,e.stmt,e.da,a.part,a.stmt,a.da) else bA (λp ((h,b):(List Int)×Int)=>bif aj (b<a.da.length) then(aB a.da b).bind λq=>(aB e.da b).bind λr=>(app h [wr (q-r)]).bind λs=>p (s,wr (b+1)) else(app k [h]).bind λw=>z (w,d.eQ,d.eR,d.kinds,e.part,e.stmt,e.da,a.part,a.stmt,a.da)) n ([],0)) λi=>bif !decide (e.part=c) then i ab else i (!decide (a.part=c))) else(mN k).bind λx=>aa (gC x)) n ([],0))
def DX(n:Nat)(p:Prog)(a:Int):Option (List (List Int)):=((p8 n p).bind λb=>bif b.1.isSome then aQ (fun(e:Bool)=>bif e then aa [] else(Ds n (b.1.getD default) a).bind λh=>aa h) (λc=>bif !b.2 then c ab else(k3 n p a).bind λi=>c (!i)) else aQ (fun(k:Bool)=>bif k then aa [] else ak) λd=>bif !b.2 then d ab else(k3 n p a).bind λl=>d (!l))
def x5(n:Nat)(p:Prog)(c:Int)(f:List Int->Option (List Int)):Option Bool:=((DX n p c).bind λh=>bA (λl ((b,i):(List (List Int))×Int)=>bif aj (i<h.length) then(aB b i).bind λd=>(f d).bind λe=>(e6 d e).bind λm=>(Ee n e).bind λk=>(ch b i e).bind λa=>bif aj ((0:Int)<=k) then(aB e k).bind λy=>bif aj (y<0) then aa al else l (a,wr (i+1)) else l (a,wr (i+1)) else aa ab) n (h,0))
def vL(n:Nat)(d:List Int)(a:Int):Option (List Int):=((aB d (wr (a+1))).bind λc=>(aB d a).bind λe=>(ch d a c).bind λb=>(aB b (wr (a+1))).bind λi=>(ch b (wr (a+1)) e).bind λh=>aa h)
def tn(n:Nat)(l:Loop)(f:aE->Option aE):Option Loop:=(bA (λe ((x,i):Loop×Int)=>(e6 l.bo x.bo).bind λh=>(e6 l.aL x.aL).bind λm=>bif aj (i<2) then bif aj (i=0) then bA (λa ((y,k):(List aE)×Int)=>bif aj (k<x.bo.length) then(aB y k).bind λb=>(f b).bind λc=>(ch y k c).bind λd=>a (d,wr (k+1)) else e ((⟨y,x.aL⟩:Loop),wr (0+1))) n (x.bo,0) else bif aj (i=1) then bA (λa ((y,k):(List aE)×Int)=>bif aj (k<x.aL.length) then(aB y k).bind λb=>(f b).bind λc=>(ch y k c).bind λd=>a (d,wr (k+1)) else e ((⟨x.bo,y⟩:Loop),wr (1+1))) n (x.aL,0) else ak else aa x) n (l,0))
def pB(n:Nat)(p:Part)(a:Int)(f:aE->Option aE):Option Part:=(bA (λb ((x,k):(List Loop)×Int)=>(e6 p.nest x).bind λo=>bif aj (k<x.length) then(aB x k).bind λc=>(tn n c f).bind λd=>(ch x k d).bind λe=>b (e,wr (k+1)) else bA (λh ((y,j):(List Stmt)×Int)=>(e6 p.body y).bind λq=>bif aj (j<p.body.length) then(aB y j).bind λi=>(oQ n i f).bind λl=>(ch y j l).bind λm=>h (m,wr (j+1)) else aa (⟨x,y⟩:Part)) n (p.body,0)) n (p.nest,a))
def vK(n:Nat)(a:aE)(b:Int):Option aE:=((k4 n a).bind λc=>(aB c.aK (wr (b+1))).bind λe=>(aB c.aK b).bind λh=>(ch c.aK b e).bind λd=>(aB d (wr (b+1))).bind λk=>(ch d (wr (b+1)) h).bind λi=>aa (⟨i,c.const⟩:aE))
def wc(n:Nat)(p:Prog)(b a:Int):Option (Prog×Bool):=((iv n p b a).bind λe=>bif e.2 then bif aj (a<0) then aa ((⟨[],[]⟩:Prog),al) else(aB e.1.parts b).bind λc=>bif aj ((c.nest.length:Int)<=wr (a+1)) then aa ((⟨[],[]⟩:Prog),al) else(aB c.nest (wr (a+1))).bind λq=>(Et n q a).bind λr=>bif r then aa ((⟨[],[]⟩:Prog),al) else(x5 n p b λh=>vL n h a).bind λs=>bif s then(aB c.nest a).bind λw=>(ch c.nest a q).bind λi=>(ch i (wr (a+1)) w).bind λd=>(ch e.1.parts b (⟨d,c.body⟩:Part)).bind λk=>(pB n (⟨d,c.body⟩:Part) (wr (a+2)) λh=>vK n h a).bind λl=>(ch k b l).bind λm=>(lI n (⟨e.1.bb,m⟩:Prog)).bind λo=>aa o else aa ((⟨[],[]⟩:Prog),al) else aa ((⟨[],[]⟩:Prog),al))
def EI(n:Nat)(a:aE):Option Bool:=((f5 n a).bind λb=>aa (aj ((0:Int)<b)))
def Ai(n:Nat)(a:List aE):Option Bool:=((pv n a λb=>EI n b).bind λc=>aa (!c))
def wm(n:Nat)(l:Loop):Option (Int×Int×Bool):=(aQ (fun(b:Bool)=>bif b then aa (0,0,al) else(aB l.bo 0).bind λc=>(aB l.aL 0).bind λd=>aa (c.const,d.const,ab)) λa=>bif !decide ((l.bo.length:Int)=1) then a ab else bif !decide ((l.aL.length:Int)=1) then a ab else(Ai n l.bo).bind λe=>bif !e then a ab else(Ai n l.aL).bind λh=>a (!h))
def vJ(n:Nat)(d:List Int)(a:Int):Option (List Int):=((aB d a).bind λb=>(ch d a (wr (0-b))).bind λc=>aa c)
def pU(n:Nat)(a:Int):Option aE:=((mk 4 0).bind λb=>aa (⟨b,a⟩:aE))
def nI(n:Nat)(v k:Int):Option aE:=((pU n 0).bind λa=>(aB a.aK v).bind λc=>(ch a.aK v k).bind λb=>aa (⟨b,a.const⟩:aE))
def sA(n:Nat)(a:aE)(k:Int)(b:aE):Option aE:=((k4 n a).bind λe=>bA (λh ((d,c):(List Int)×Int)=>bif aj (c<b.aK.length) then(aB b.aK c).bind λi=>(aB d c).bind λl=>(ch d c (wr (l+(wr (k*i))))).bind λm=>h (m,wr (c+1)) else aa (⟨d,wr (e.const+(wr (k*b.const)))⟩:aE)) n (e.aK,0))
def uz(n:Nat)(a:aE)(v:Int)(b:aE):Option aE:=((k4 n a).bind λc=>(aB c.aK v).bind λd=>(ch c.aK v 0).bind λe=>(sA n (⟨e,c.const⟩:aE) d b).bind λh=>aa h)
def vI(n:Nat)(a:aE)(b:Int)(c:aE):Option aE:=((uz n a b c).bind λd=>aa d)
def wb(n:Nat)(p:Prog)(b a:Int):Option (Prog×Bool):=((iv n p b a).bind λc=>bif c.2 then bif aj (a<0) then aa ((⟨[],[]⟩:Prog),al) else(aB c.1.parts b).bind λl=>(aB l.nest a).bind λm=>(wm n m).bind λd=>bif d.2.2 then(x5 n p b λe=>vJ n e a).bind λo=>bif o then(nI n a (-1)).bind λq=>(pB n l (wr (a+1)) λe=>vI n e a (⟨q.aK,wr ((wr (d.1+d.2.1))-1)⟩:aE)).bind λh=>(ch c.1.parts b h).bind λi=>(lI n (⟨c.1.bb,i⟩:Prog)).bind λk=>aa k else aa ((⟨[],[]⟩:Prog),al) else aa ((⟨[],[]⟩:Prog),al) else aa ((⟨[],[]⟩:Prog),al))
def xQ(n:Nat)(a:Int):Option Bool:=((fz n a (-6) 6).bind λb=>aa b)
def zr(n:Nat)(a:aE)(b c:Int):Option aE:=((nI n c 1).bind λd=>(sA n a b d).bind λe=>aa e)
def wk(n:Nat)(a:aE)(b:Int)(c:aE):Option aE:=((uz n a (wr (b+1)) c).bind λd=>aa d)
def wQ(n:Nat)(p:Prog)(b a c:Int):Option (Prog×Bool):=((iv n p b a).bind λe=>bif e.2 then aQ (fun(r:Bool)=>bif r then aa ((⟨[],[]⟩:Prog),al) else(aB e.1.parts b).bind λd=>(aB d.nest (wr (a+1))).bind λs=>(tn n s λh=>zr n h c a).bind λw=>(ch d.nest (wr (a+1)) w).bind λq=>(ch e.1.parts b (⟨q,d.body⟩:Part)).bind λi=>(nI n (wr (a+1)) 1).bind λx=>(nI n a 1).bind λy=>(sA n x (wr (0-c)) y).bind λz=>(pB n (⟨q,d.body⟩:Part) (wr (a+2)) λh=>wk n h a z).bind λk=>(ch i b k).bind λl=>(lI n (⟨e.1.bb,l⟩:Prog)).bind λm=>aa m) (λo=>bif aj (a<0) then o ab else(aB e.1.parts b).bind λd=>bif aj ((d.nest.length:Int)<=wr (a+1)) then o ab else(xQ n c).bind λA=>o (!A)) else aa ((⟨[],[]⟩:Prog),al))
def zh(n:Nat)(a:aE)(b:Int):Option aE:=((pU n 1).bind λc=>(sA n a b c).bind λd=>aa d)
def wa(n:Nat)(a:aE)(b:Int)(c:aE):Option aE:=((uz n a b c).bind λd=>aa d)
def wH(n:Nat)(p:Prog)(b a c:Int):Option (Prog×Bool):=((iv n p b a).bind λd=>bif d.2 then aQ (fun(r:Bool)=>bif r then aa ((⟨[],[]⟩:Prog),al) else(aB d.1.parts b).bind λe=>(aB e.nest a).bind λs=>(tn n s λh=>zh n h c).bind λw=>(ch e.nest a w).bind λo=>(ch d.1.parts b (⟨o,e.body⟩:Part)).bind λi=>(nI n a 1).bind λx=>(pB n (⟨o,e.body⟩:Part) (wr (a+1)) λh=>wa n h a (⟨x.aK,wr (0-c)⟩:aE)).bind λk=>(ch i b k).bind λl=>(lI n (⟨d.1.bb,l⟩:Prog)).bind λm=>aa m) (λq=>bif aj (a<0) then q ab else(xQ n c).bind λy=>q (!y)) else aa ((⟨[],[]⟩:Prog),al))
def sK{α:Type}(l:List α)(o:Nat)(x:List α):List α:=l.take o++x.take (Nat.min x.length (l.length-o))++l.drop (o+Nat.min x.length (l.length-o))
def v'(n:Nat)(a:aE)(b:Int):Option aE:=((k4 n a).bind λc=>bif aj ((0:Int)<=wr (b+1)) then bif aj (wr (b+1)<c.aK.length) then(sub a.aK b a.aK.length).bind λd=>(aB (sK c.aK (wr (b+1)).toNat d) b).bind λh=>(ch (sK c.aK (wr (b+1)).toNat d) b 0).bind λe=>aa (⟨e,c.const⟩:aE) else ak else ak)
def v8(n:Nat)(s:List Loop)(i:Int)(v:List Loop):Option (List Loop):=(bif aj ((0:Int)<=i) then bif aj (i<=s.length) then app (s.take i.toNat++v) (s.drop i.toNat) else ak else ak)
def wF(n:Nat)(p:Prog)(c a b:Int):Option (Prog×Bool):=((iv n p c a).bind λe=>bif e.2 then(aB e.1.parts c).bind λi=>aQ (fun(r:Bool)=>bif r then aa ((⟨[],[]⟩:Prog),al) else(aB i.nest a).bind λs=>(wm n s).bind λd=>bif d.2.2 then(pB n i a λw=>v' n w a).bind λh=>(ch e.1.parts c h).bind λx=>(wu b).bind λG=>(nI n a b).bind λy=>(nI n a b).bind λz=>(pU n d.1).bind λA=>(pU n d.2.1).bind λB=>(aB h.nest a).bind λH=>(ch h.nest a (⟨[A,(⟨y.aK,d.1⟩:aE)],[B,(⟨z.aK,wr (d.1+b)⟩:aE)]⟩:Loop)).bind λk=>(pU n 0).bind λC=>(pU n (wr (Int.tdiv (wr ((wr ((max 0 (wr (d.2.1-d.1)))+b))-1)) b))).bind λD=>(v8 n k a [(⟨[C],[D]⟩:Loop)]).bind λl=>(ch x c (⟨l,h.body⟩:Part)).bind λm=>(lI n (⟨e.1.bb,m⟩:Prog)).bind λo=>aa o else aa ((⟨[],[]⟩:Prog),al)) (λq=>bif aj (a<0) then q ab else bif aj ((i.nest.length:Int)=4) then q ab else(fz n b 1 6).bind λF=>q (!F)) else aa ((⟨[],[]⟩:Prog),al))
def Kg(n:Nat)(b:List Loop)(c:List Loop)(d:Loop->Loop->Option Bool):Option Bool:=(bif !decide ((b.length:Int)=c.length) then aa al else bA (λe (a:Int)=>bif aj (a<b.length) then(aB b a).bind λh=>(aB c a).bind λi=>(d h i).bind λk=>bif !k then aa al else e (wr (a+1)) else aa ab) n 0)
def yZ(n:Nat)(b:List aE)(c:List aE)(d:aE->aE->Option Bool):Option Bool:=(bif !decide ((b.length:Int)=c.length) then aa al else bA (λe (a:Int)=>bif aj (a<b.length) then(aB b a).bind λh=>(aB c a).bind λi=>(d h i).bind λk=>bif !k then aa al else e (wr (a+1)) else aa ab) n 0)
def oD(n:Nat)(a b:aE):Option Bool:=(aQ (fun(d:Bool)=>aa d) λc=>(EG n a.aK b.aK).bind λe=>bif e then c (aj (a.const=b.const)) else c al)
def zs(n:Nat)(x y:Loop):Option Bool:=(aQ (fun(d:Bool)=>aa d) λc=>(yZ n x.bo y.bo λa b=>oD n a b).bind λe=>bif e then(yZ n x.aL y.aL λa b=>oD n a b).bind λh=>c h else c al)
def Ay(n:Nat)(a:List Loop)(b:List Loop):Option Bool:=((Kg n a b λc d=>zs n c d).bind λe=>aa e)
def A7(n:Nat)(p:List Int)(q:List Int):Option Bool:=((KC n p q).bind λa=>aa (aj (a<0)))
def tm(n:Nat)(s:List Part)(i j:Int):Option (Nat×List Part):=(bif aj ((0:Int)<=i) then bif aj (i<=j) then bif aj (j<=s.length) then bif aj (i=j) then aa (s.length,s) else aa (dL s i j,hd s i j (⟨[],[]⟩:Part)) else ak else ak else ak)
def pQ(n:Nat)(p:Prog)(a:Int):Option (Prog×Bool):=((iv n p a (-1)).bind λd=>bif d.2 then(aB d.1.parts a).bind λb=>aQ (fun(A:Bool)=>bif A then aa ((⟨[],[]⟩:Prog),al) else(p8 n p).bind λl=>bif l.1.isSome then(vV n (l.1.getD default)).bind λy=>bA (λB (m:Int)=>bif aj (m<y.length) then(aB y m).bind λe=>(aB ((l.1.getD default).list) e.eQ).bind λh=>(aB ((l.1.getD default).list) e.eR).bind λi=>aQ (fun(o:Bool)=>bif o then aa ((⟨[],[]⟩:Prog),al) else B (wr (m+1))) (λc=>bif aj (h.part=a) then bif aj (i.part=wr (a+1)) then(A7 n i.da h.da).bind λq=>c q else c al else c al) else(aB d.1.parts (wr (a+1))).bind λr=>(app b.body r.body).bind λs=>(ch d.1.parts a (⟨b.nest,s⟩:Part)).bind λw=>(tm n w (wr (a+1)) (wr (a+2))).bind λk=>(lI n (⟨d.1.bb,k.2.take k.1⟩:Prog)).bind λx=>aa x) n 0 else ak) (λz=>bif aj ((p.parts.length:Int)<=wr (a+1)) then z ab else(aB p.parts (wr (a+1))).bind λC=>(Ay n b.nest C.nest).bind λD=>z (!D)) else aa ((⟨[],[]⟩:Prog),al))
def EZ(n:Nat)(s:List Stmt):Option (List Stmt):=(bif s.isEmpty then ak else(app [] s).bind λa=>aa a)
def v7(n:Nat)(s:List Part)(i:Int)(v:List Part):Option (List Part):=(bif aj ((0:Int)<=i) then bif aj (i<=s.length) then app (s.take i.toNat++v) (s.drop i.toNat) else ak else ak)
def px(n:Nat)(p:Prog)(b a:Int):Option (Prog×Bool):=((iv n p b (-1)).bind λi=>bif i.2 then(aB i.1.parts b).bind λc=>aQ (fun(B:Bool)=>bif B then aa ((⟨[],[]⟩:Prog),al) else(p8 n p).bind λk=>bif k.1.isSome then(vV n (k.1.getD default)).bind λz=>bA (λC (l:Int)=>bif aj (l<z.length) then(aB z l).bind λA=>(aB ((k.1.getD default).list) A.eQ).bind λe=>(aB ((k.1.getD default).list) A.eR).bind λh=>aQ (fun(m:Bool)=>bif m then aa ((⟨[],[]⟩:Prog),al) else C (wr (l+1))) (λd=>bif aj (e.part=b) then bif aj (h.part=b) then bif aj (h.stmt<a) then d (aj (a<=e.stmt)) else d al else d al else d al) else(ry n c.nest).bind λo=>(sub c.body a c.body.length).bind λq=>(EZ n q).bind λr=>(sub c.body 0 a).bind λs=>(ch i.1.parts b {c with body:=s}).bind λw=>(v7 n w (wr (b+1)) [(⟨o,r⟩:Part)]).bind λx=>(lI n (⟨i.1.bb,x⟩:Prog)).bind λy=>aa y) n 0 else ak) (λD=>(fz n a 1 (wr ((c.body.length:Int)-1))).bind λF=>D (!F)) else aa ((⟨[],[]⟩:Prog),al))
def wG(n:Nat)(p:Prog)(b a:Int):Option (Prog×Bool):=((iv n p b (-1)).bind λe=>bif e.2 then(aB e.1.parts b).bind λd=>bif aj ((d.nest.length:Int)=0) then aa ((⟨[],[]⟩:Prog),al) else(aB d.nest 0).bind λh=>(wm n h).bind λi=>bif i.2.2 then(fz n a i.1 i.2.1).bind λz=>bif z then(rv n d).bind λk=>(aB h.aL 0).bind λl=>(ch h.aL 0 {l with const:=a}).bind λm=>(ch d.nest 0 {h with aL:=m}).bind λo=>(ch e.1.parts b {d with nest:=o}).bind λq=>(aB k.nest 0).bind λc=>(aB c.bo 0).bind λr=>(ch c.bo 0 {r with const:=a}).bind λs=>(ch k.nest 0 {c with bo:=s}).bind λw=>(v7 n q (wr (b+1)) [(⟨w,k.body⟩:Part)]).bind λx=>(lI n (⟨e.1.bb,x⟩:Prog)).bind λy=>aa y else aa ((⟨[],[]⟩:Prog),al) else aa ((⟨[],[]⟩:Prog),al) else aa ((⟨[],[]⟩:Prog),al))
def DO(n:Nat)(p:Prog):Option Int:=(bA (λc ((b,a):Int×Int)=>bif aj (a<p.bb.length) then(aB p.bb a).bind λd=>(Ef n d).bind λe=>c (wr (b+e),wr (a+1)) else aa b) n (0,0))
def y3(n:Nat)(t:oo)(d:Int):Option ((List Bool)×(List Bool)):=((DO n t.program).bind λy=>(mk y al).bind λz=>(DO n t.program).bind λA=>(mk A al).bind λB=>bA (λo ((p,m,e):(List Bool)×(List Bool)×Int)=>bif aj (e<t.list.length) then aQ (fun((q,r,C,D,F):(List Bool)×(List Bool)×Int×Int×(List Int))=>o (q,r,wr (e+1))) (λh=>(aB t.list e).bind λa=>bif !decide (a.part=d) then h (p,m,a.part,a.stmt,a.da) else(aB t.reads e).bind λi=>bA (λs ((b,c):(List Bool)×Int)=>bif aj (c<i.length) then(aB i c).bind λk=>(aB b k).bind λG=>(ch b k ab).bind λw=>s (w,wr (c+1)) else(aB t.i' e).bind λl=>(aB m l).bind λH=>(ch m l ab).bind λx=>h (b,x,a.part,a.stmt,a.da)) n (p,0)) else aa (p,m)) n (z,B,0))
def Dz(n:Nat)(p:Prog)(a b:Int):Option Bool:=((p8 n p).bind λi=>bif i.1.isSome then aQ (fun(y:Bool)=>bif y then aa al else(y3 n (i.1.getD default) a).bind λe=>(y3 n (i.1.getD default) b).bind λh=>bA (λm (c:Int)=>bif aj (c<e.1.length) then aQ (fun(o:Bool)=>bif o then aa al else m (wr (c+1))) (λd=>(aB e.2 c).bind λq=>bif q then(aB h.1 c).bind λr=>bif r then d ab else(aB h.2 c).bind λs=>bif s then d ab else d al else(aB h.2 c).bind λw=>bif w then(aB e.1 c).bind λx=>d x else d al) else aa ab) n 0) (λk=>bif !i.2 then k ab else(k3 n p a).bind λz=>bif !z then k ab else(k3 n p b).bind λA=>bif !A then k ab else k (aj (a=b))) else aQ (fun(B:Bool)=>bif B then aa al else ak) λl=>bif !i.2 then l ab else(k3 n p a).bind λC=>bif !C then l ab else(k3 n p b).bind λD=>bif !D then l ab else l (aj (a=b)))
def i8(n:Nat)(p:Prog)(a:Int):Option (Prog×Bool):=(aQ (fun(e:Bool)=>bif e then aa ((⟨[],[]⟩:Prog),al) else(pA n p).bind λb=>(aB b.parts (wr (a+1))).bind λh=>(aB b.parts a).bind λi=>(ch b.parts a h).bind λd=>(aB d (wr (a+1))).bind λm=>(ch d (wr (a+1)) i).bind λk=>aa ((⟨b.bb,k⟩:Prog),ab)) λc=>bif aj (a<0) then c ab else bif aj ((p.parts.length:Int)<=a) then c ab else(Dz n p a (wr (a+1))).bind λl=>c (!l))
def DF(n:Nat)(t:oo)(a:Int):Option (List Int):=((aB t.reads a).bind λi=>bA (λm ((k,c):(List Int)×Int)=>bif aj (c<i.length) then(aB i c).bind λo=>bA (λp (b:Int)=>aQ (fun(d:Bool)=>bif d then p (wr (b-1)) else(app k [b]).bind λe=>m (e,wr (c+1))) λl=>bif aj ((0:Int)<=b) then(aB t.i' b).bind λh=>l (!decide (h=o)) else l al) n (wr (a-1)) else aa k) n ([],0))
def DW(n:Nat)(t:oo):Option (List Bool):=((mk t.list.length al).bind λy=>bA (λz ((e,b):(List Bool)×Int)=>bif aj ((0:Int)<=b) then aQ (fun(k:(List Bool))=>z (k,wr (b-1))) (λw=>aQ (fun(l:Bool)=>bif l then w e else(aB e b).bind λA=>(ch e b ab).bind λm=>(DF n t b).bind λh=>bA (λo ((a,c):(List Bool)×Int)=>bif aj (c<h.length) then aQ (fun(p:(List Bool))=>o (p,wr (c+1))) (λi=>(aB h c).bind λd=>bif aj ((0:Int)<=d) then(aB a d).bind λB=>(ch a d ab).bind λq=>i q else i a) else w a) n (m,0)) λx=>(aB e b).bind λC=>bif !C then(sub t.i' (wr (b+1)) (t.i'.length:Int)).bind λD=>(aB t.i' b).bind λr=>(vT n D r).bind λs=>x s else x al) else aa e) n (y,wr ((t.list.length:Int)-1)))
def pV(n:Nat)(p:Prog)(a:Int):Option (Prog×Bool):=((p8 n p).bind λb=>bif b.1.isSome then aQ (fun(s:Bool)=>bif s then aa ((⟨[],[]⟩:Prog),al) else(DW n (b.1.getD default)).bind λo=>bA (λi (h:Int)=>bif aj (h<o.length) then(aB o h).bind λk=>aQ (fun(l:Bool)=>bif l then aa ((⟨[],[]⟩:Prog),al) else i (wr (h+1))) (λc=>bif k then(aB ((b.1.getD default).list) h).bind λm=>c (aj (m.part=a)) else c al) else(pA n p).bind λd=>(tm n d.parts a (wr (a+1))).bind λe=>aa ((⟨d.bb,e.2.take e.1⟩:Prog),ab)) n 0) (λq=>bif !b.2 then q ab else(k3 n p a).bind λw=>q (!w)) else aQ (fun(x:Bool)=>bif x then aa ((⟨[],[]⟩:Prog),al) else ak) λr=>bif !b.2 then r ab else(k3 n p a).bind λy=>r (!y))
def om(n:Nat)(a:Int):Option Expr:=(aa (⟨1,a,(⟨[],0⟩:aE),(⟨[],[]⟩:cx),[]⟩:Expr))
def iR(n:Nat)(e:Expr)(a:Int):Option Bool:=(aQ (fun(c:Bool)=>aa c) λb=>bif aj (e.kind=1) then b (aj (e.num=a)) else b al)
def ra:Nat->Expr->Option Expr
 |0,_=>ak
 |n+1,e=>(aQ (fun(H:Bool)=>bif H then(om n e.index.const).bind λK=>aa K else(sq n e.kind).bind λL=>bif !L then aa e else(aB e.a1 0).bind λQ=>(ra n Q).bind λa=>(aB e.a1 1).bind λR=>(ra n R).bind λb=>aQ (fun(m:Bool)=>bif m then aQ (fun(k:Int)=>(fz n k 0 99).bind λo=>bif o then(om n k).bind λp=>aa p else aa (⟨e.kind,0,(⟨[],0⟩:aE),(⟨[],[]⟩:cx),[a,b]⟩:Expr)) (λh=>bif aj (e.kind=5) then h (wr (a.num-b.num)) else bif aj (e.kind=6) then h (wr (a.num*b.num)) else h (wr (a.num+b.num))) else aQ (fun(q:Bool)=>bif q then aa a else aQ (fun(r:Bool)=>bif r then aa b else aQ (fun(s:Bool)=>bif s then(om n 0).bind λw=>aa w else aa (⟨e.kind,0,(⟨[],0⟩:aE),(⟨[],[]⟩:cx),[a,b]⟩:Expr)) λi=>bif aj (e.kind=6) then(iR n a 0).bind λx=>bif x then i ab else(iR n b 0).bind λy=>i y else i al) λc=>bif aj (e.kind=4) then(iR n a 0).bind λz=>bif z then c ab else bif aj (e.kind=6) then(iR n a 1).bind λA=>c A else c al else bif aj (e.kind=6) then(iR n a 1).bind λB=>c B else c al) λd=>bif !(aj (e.kind=6)) then(iR n b 0).bind λC=>bif C then d ab else bif aj (e.kind=6) then(iR n b 1).bind λD=>d D else d al else bif aj (e.kind=6) then(iR n b 1).bind λF=>d F else d al) λl=>bif aj (a.kind=1) then l (aj (b.kind=1)) else l al) λG=>bif aj (e.kind=2) then(f5 n e.index).bind λW=>bif aj (W=0) then G (aj ((0:Int)<=e.index.const)) else G al else G al)
def ue(n:Nat)(s:Stmt):Option Stmt:=((w4 n s).bind λa=>(ra n a.value).bind λb=>aa (⟨a.write,b⟩:Stmt))
def we(n:Nat)(p:Prog):Option (Prog×Bool):=((vU n p).bind λi=>bif !i then aa ((⟨[],[]⟩:Prog),al) else(pA n p).bind λe=>bA (λk ((h,a):(List Part)×Int)=>bif aj (a<e.parts.length) then(aB h a).bind λb=>bA (λl ((c,d):(List Stmt)×Int)=>bif aj (d<b.body.length) then(aB c d).bind λm=>(ue n m).bind λo=>(ch c d o).bind λq=>l (q,wr (d+1)) else(e6 b.body c).bind λs=>(ch h a (⟨b.nest,c⟩:Part)).bind λr=>k (r,wr (a+1))) n (b.body,0) else aa ((⟨e.bb,h⟩:Prog),ab)) n (e.parts,0))
def oE(n:Nat)(p:Prog)(s:Step):Option (Prog×Bool):=((A3 n s).bind λw=>bif !w then aa ((⟨[],[]⟩:Prog),al) else bif aj (s.kind=1) then(wc n p s.part s.a).bind λh=>aa (h.1,h.2) else bif aj (s.kind=2) then(wb n p s.part s.a).bind λi=>aa (i.1,i.2) else bif aj (s.kind=3) then(wQ n p s.part s.a s.b).bind λk=>aa (k.1,k.2) else bif aj (s.kind=4) then(wH n p s.part s.a s.b).bind λl=>aa (l.1,l.2) else bif aj (s.kind=5) then(wF n p s.part s.a s.b).bind λm=>aa (m.1,m.2) else bif aj (s.kind=6) then(pQ n p s.part).bind λo=>aa (o.1,o.2) else bif aj (s.kind=7) then(px n p s.part s.a).bind λq=>aa (q.1,q.2) else bif aj (s.kind=8) then(wG n p s.part s.a).bind λr=>aa (r.1,r.2) else bif aj (s.kind=9) then(i8 n p s.part).bind λc=>aa (c.1,c.2) else bif aj (s.kind=10) then(pV n p s.part).bind λd=>aa (d.1,d.2) else(we n p).bind λe=>aa (e.1,e.2))
def xA(n:Nat)(a:List Int)(b:List Int):Option Bool:=(bif !decide ((a.length:Int)=b.length) then aa al else bA (λd (c:Int)=>bif aj (c<a.length) then(aB a c).bind λe=>(aB b c).bind λh=>bif !decide (e=h) then aa al else d (wr (c+1)) else aa ab) n 0)
def AJ(n:Nat)(a b:cC):Option Bool:=(bif !decide (a.name=b.name) then aa al else(xA n a.b8 b.b8).bind λc=>bif !c then aa al else aa ab)
def Fy(n:Nat)(a:List cC)(b:List cC):Option Bool:=(bif !decide ((a.length:Int)=b.length) then aa al else bA (λd (c:Int)=>bif aj (c<a.length) then(aB a c).bind λe=>(aB b c).bind λh=>(AJ n e h).bind λi=>bif !i then aa al else d (wr (c+1)) else aa ab) n 0)
def zN(n:Nat)(a b:aE):Option Bool:=((xA n a.aK b.aK).bind λc=>bif !c then aa al else bif !decide (a.const=b.const) then aa al else aa ab)
def zy(n:Nat)(a:List aE)(b:List aE):Option Bool:=(bif !decide ((a.length:Int)=b.length) then aa al else bA (λd (c:Int)=>bif aj (c<a.length) then(aB a c).bind λe=>(aB b c).bind λh=>(zN n e h).bind λi=>bif !i then aa al else d (wr (c+1)) else aa ab) n 0)
def BP(n:Nat)(a b:Loop):Option Bool:=((zy n a.bo b.bo).bind λc=>bif !c then aa al else(zy n a.aL b.aL).bind λd=>bif !d then aa al else aa ab)
def F7(n:Nat)(a:List Loop)(b:List Loop):Option Bool:=(bif !decide ((a.length:Int)=b.length) then aa al else bA (λd (c:Int)=>bif aj (c<a.length) then(aB a c).bind λe=>(aB b c).bind λh=>(BP n e h).bind λi=>bif !i then aa al else d (wr (c+1)) else aa ab) n 0)
def zO(n:Nat)(a b:cx):Option Bool:=(bif !decide (a.array=b.array) then aa al else(zy n a.a7 b.a7).bind λc=>bif !c then aa al else aa ab)
def Gs(n:Nat)(self:Expr->Expr->Option Bool)(a:List Expr)(b:List Expr):Option Bool:=(bif !decide ((a.length:Int)=b.length) then aa al else bA (λd (c:Int)=>bif aj (c<a.length) then(aB a c).bind λe=>(aB b c).bind λh=>(self e h).bind λi=>bif !i then aa al else d (wr (c+1)) else aa ab) n 0)
def ql:Nat->Expr->Expr->Option Bool
 |0,_,_=>ak
 |n+1,a,b=>(bif !decide (a.kind=b.kind) then aa al else bif !decide (a.num=b.num) then aa al else(zN n a.index b.index).bind λc=>bif !c then aa al else(zO n a.read b.read).bind λd=>bif !d then aa al else(Gs n (ql n) a.a1 b.a1).bind λe=>bif !e then aa al else aa ab)
def BN(n:Nat)(a b:Stmt):Option Bool:=((zO n a.write b.write).bind λc=>bif !c then aa al else(ql n a.value b.value).bind λd=>bif !d then aa al else aa ab)
def F5(n:Nat)(a:List Stmt)(b:List Stmt):Option Bool:=(bif !decide ((a.length:Int)=b.length) then aa al else bA (λd (c:Int)=>bif aj (c<a.length) then(aB a c).bind λe=>(aB b c).bind λh=>(BN n e h).bind λi=>bif !i then aa al else d (wr (c+1)) else aa ab) n 0)
def BO(n:Nat)(a b:Part):Option Bool:=((F7 n a.nest b.nest).bind λc=>bif !c then aa al else(F5 n a.body b.body).bind λd=>bif !d then aa al else aa ab)
def F6(n:Nat)(a:List Part)(b:List Part):Option Bool:=(bif !decide ((a.length:Int)=b.length) then aa al else bA (λd (c:Int)=>bif aj (c<a.length) then(aB a c).bind λe=>(aB b c).bind λh=>(BO n e h).bind λi=>bif !i then aa al else d (wr (c+1)) else aa ab) n 0)
def nA(n:Nat)(a b:Prog):Option Bool:=((Fy n a.bb b.bb).bind λc=>bif !c then aa al else(F6 n a.parts b.parts).bind λd=>bif !d then aa al else aa ab)
def j3(n:Nat)(k:Int):Option (List UInt8):=(bif aj (k<=0) then aa [109,48] else bA (λc ((a,b):Int×(List UInt8))=>bif aj ((0:Int)<a) then(cat [UInt8.ofInt (wr (48+(Int.tmod a 10)))] b).bind λd=>c (wr (Int.tdiv a 10),d) else(cat [109] b).bind λe=>aa e) n (k,[]))
def nB(n:Nat)(a:List Int)(k:Int):Option Int:=(bA (λd ((b,c):Int×Int)=>bif aj (c<a.length) then(aB a c).bind λe=>bif !decide (e=b) then aa (-1) else d (wr (b+1),wr (c+1)) else aa b) n (k,0))
def wi(n:Nat)(a:List cC)(k:Int):Option Int:=(bA (λh ((b,c):Int×Int)=>bif aj (c<a.length) then(aB a c).bind λd=>(j3 n b).bind λi=>bif !decide (d.name=i) then aa (-1) else(nB n d.b8 (wr (b+1))).bind λe=>bif aj (e<0) then aa (-1) else h (e,wr (c+1)) else aa b) n (k,0))
def kD(n:Nat)(a:List aE)(k:Int):Option Int:=(bA (λh ((d,b):Int×Int)=>bif aj (b<a.length) then(aB a b).bind λe=>(nB n e.aK d).bind λc=>bif aj (c<0) then aa (-1) else bif !decide (e.const=c) then aa (-1) else h (wr (c+1),wr (b+1)) else aa d) n (k,0))
def tw(n:Nat)(a:List Loop)(k:Int):Option Int:=(bA (λi ((c,b):Int×Int)=>bif aj (b<a.length) then(aB a b).bind λd=>(kD n d.bo c).bind λe=>bif aj (e<0) then aa (-1) else(kD n d.aL e).bind λh=>bif aj (h<0) then aa (-1) else i (h,wr (b+1)) else aa c) n (k,0))
def ng:Nat->(List Expr)->Int->Option Int
 |0,_,_=>ak
 |n+1,a,k=>(bA (λl ((c,e):Int×Int)=>bif aj (e<a.length) then(aB a e).bind λb=>bif !decide (b.kind=c) then aa (-1) else bif !decide (b.num=wr (c+1)) then aa (-1) else(nB n b.index.aK (wr ((wr (c+1))+1))).bind λd=>bif aj (d<0) then aa (-1) else bif !decide (b.index.const=d) then aa (-1) else(j3 n (wr (d+1))).bind λm=>bif !decide (b.read.array=m) then aa (-1) else(kD n b.read.a7 (wr ((wr (d+1))+1))).bind λh=>bif aj (h<0) then aa (-1) else(ng n b.a1 h).bind λi=>bif aj (i<0) then aa (-1) else l (i,wr (e+1)) else aa c) n (k,0))
def tv(n:Nat)(a:List Stmt)(k:Int):Option Int:=(bA (λm ((h,i):Int×Int)=>bif aj (i<a.length) then(aB a i).bind λb=>(j3 n h).bind λo=>bif !decide (b.write.array=o) then aa (-1) else(kD n b.write.a7 (wr (h+1))).bind λd=>bif aj (d<0) then aa (-1) else bif !decide (b.value.kind=d) then aa (-1) else bif !decide (b.value.num=wr (d+1)) then aa (-1) else(nB n b.value.index.aK (wr ((wr (d+1))+1))).bind λe=>bif aj (e<0) then aa (-1) else bif !decide (b.value.index.const=e) then aa (-1) else(j3 n (wr (e+1))).bind λp=>bif !decide (b.value.read.array=p) then aa (-1) else(kD n b.value.read.a7 (wr ((wr (e+1))+1))).bind λl=>bif aj (l<0) then aa (-1) else(ng n b.value.a1 l).bind λc=>bif aj (c<0) then aa (-1) else m (c,wr (i+1)) else aa h) n (k,0))
def wv(n:Nat)(a:List Part)(k:Int):Option Int:=(bA (λi ((c,b):Int×Int)=>bif aj (b<a.length) then(aB a b).bind λd=>(tw n d.nest c).bind λe=>bif aj (e<0) then aa (-1) else(tv n d.body e).bind λh=>bif aj (h<0) then aa (-1) else i (h,wr (b+1)) else aa c) n (k,0))
def tj(n:Nat)(a:Prog)(k:Int):Option Int:=((wi n a.bb k).bind λb=>bif aj (b<0) then aa (-1) else(wv n a.parts b).bind λc=>bif aj (c<0) then aa (-1) else aa c)
def aH:List dy:=[⟨3,1,[]⟩,⟨121,2,[(1,0)]⟩,⟨92,2,[(0,0)]⟩,⟨82,2,[(0,2),(1,2)]⟩,⟨116,7,[(2,0),(5,2),(6,4)]⟩,⟨118,9,[(1,2),(4,0),(7,2),(8,4)]⟩,⟨86,2,[(0,3),(1,5)]⟩]
def e8(k:Int)(a:Int×List Int)(t:List UInt8)(b:Int×List aE)(c:Int×List Expr):Expr:=⟨k,wr (k+1),⟨a.2,a.1⟩,⟨t,b.2⟩,c.2⟩
def ez(t:List UInt8)(a:Int×List aE)(b:Int×List Int)(s:List UInt8)(c:Int×List aE)(d:Int×List Expr):Stmt:=⟨⟨t,a.2⟩,e8 a.1 b s c d⟩
def tB(n:Nat)(a:List Int)(k:Int):Option (Int×List Int):=bA (λd ((cA,b,c):Int×List Int×Int)=>bif aj (c<b.length) then(aB b c).bind λy=>(ch b c cA).bind λz=>d (wr (cA+1),z,wr (c+1)) else aa (cA,b)) n (k,a,0)
def D9(n:Nat)(a:List cC)(k:Int):Option (Int×List cC):=bA (λe ((cA,b,c):Int×List cC×Int)=>bif aj (c<b.length) then(aB b c).bind λy=>(j3 n cA).bind λh=>(tB n y.b8 (wr (cA+1))).bind λd=>(e6 y.b8 d.2).bind λ_=>(ch b c (⟨h,d.2⟩:cC)).bind λz=>e (d.1,z,wr (c+1)) else aa (cA,b)) n (k,a,0)
def qZ(n:Nat)(a:List aE)(k:Int):Option (Int×List aE):=bA (λe ((cA,b,c):Int×List aE×Int)=>bif aj (c<b.length) then(aB b c).bind λy=>(tB n y.aK cA).bind λd=>(e6 y.aK d.2).bind λ_=>(ch b c (⟨d.2,d.1⟩:aE)).bind λz=>e (wr (d.1+1),z,wr (c+1)) else aa (cA,b)) n (k,a,0)
def Ez(n:Nat)(a:List Loop)(k:Int):Option (Int×List Loop):=bA (λh ((cA,b,c):Int×List Loop×Int)=>bif aj (c<b.length) then(aB b c).bind λy=>(qZ n y.bo cA).bind λd=>(e6 y.bo d.2).bind λ_=>(qZ n y.aL d.1).bind λe=>(e6 y.aL e.2).bind λ_=>(ch b c (⟨d.2,e.2⟩:Loop)).bind λz=>h (e.1,z,wr (c+1)) else aa (cA,b)) n (k,a,0)
def rT:Nat->List Expr->Int->Option (Int×List Expr)
 |0,_,_=>ak
 |n+1,a,k=>bA (λi ((cA,b,c):Int×List Expr×Int)=>bif aj (c<b.length) then(aB b c).bind λy=>(tB n y.index.aK (wr (wr (cA+1)+1))).bind λd=>(e6 y.index.aK d.2).bind λ_=>(j3 n (wr (d.1+1))).bind λl=>(qZ n y.read.a7 (wr (wr (d.1+1)+1))).bind λe=>(e6 y.read.a7 e.2).bind λ_=>(rT n y.a1 e.1).bind λh=>(e6 y.a1 h.2).bind λ_=>(ch b c (e8 cA d l e h)).bind λz=>i (h.1,z,wr (c+1)) else aa (cA,b)) n (k,a,0)
def Ey(n:Nat)(a:List Stmt)(k:Int):Option (Int×List Stmt):=bA (λl ((cA,b,c):Int×List Stmt×Int)=>bif aj (c<b.length) then(aB b c).bind λy=>(j3 n cA).bind λm=>(qZ n y.write.a7 (wr (cA+1))).bind λe=>(e6 y.write.a7 e.2).bind λ_=>(tB n y.value.index.aK (wr (wr (e.1+1)+1))).bind λd=>(e6 y.value.index.aK d.2).bind λ_=>(j3 n (wr (d.1+1))).bind λo=>(qZ n y.value.read.a7 (wr (wr (d.1+1)+1))).bind λh=>(e6 y.value.read.a7 h.2).bind λ_=>(rT n y.value.a1 h.1).bind λi=>(e6 y.value.a1 i.2).bind λ_=>(ch b c (ez m e d o h i)).bind λz=>l (i.1,z,wr (c+1)) else aa (cA,b)) n (k,a,0)
def zz(n:Nat)(a:List Part)(k:Int):Option (Int×List Part):=bA (λh ((cA,b,c):Int×List Part×Int)=>bif aj (c<b.length) then(aB b c).bind λy=>(Ez n y.nest cA).bind λd=>(e6 y.nest d.2).bind λ_=>(Ey n y.body d.1).bind λe=>(e6 y.body e.2).bind λ_=>(ch b c (⟨d.2,e.2⟩:Part)).bind λz=>h (e.1,z,wr (c+1)) else aa (cA,b)) n (k,a,0)
def tk(n:Nat)(a:Prog)(k:Int):Option (Int×List cC×List Part):=(D9 n a.bb k).bind λb=>(zz n a.parts b.1).bind λc=>aa (c.1,b.2,c.2)
def Tr(n:Nat)(e:Prog)(m:Step):Option Bool:=((Ex n e 1048576).bind λD=>bif aj (D<0) then aa ab else(nz n e).bind λF=>(BJ n m).bind λG=>(rj n F G).bind λd=>(nz n e).bind λo=>(BJ n m).bind λH=>(oE n o H).bind λb=>aQ (fun(p:Bool)=>bif p then aa al else(nz n e).bind λq=>(nA n o q).bind λr=>bif !r then aa al else(tk n o 1).bind λs=>aQ (fun(w:Bool)=>bif w then aa al else(tk n b.1 1).bind λa=>(e6 b.1.bb a.2.1).bind λ_=>(e6 b.1.parts a.2.2).bind λ_=>(tj n (⟨a.2.1,a.2.2⟩:Prog) 1).bind λh=>bif aj (h<0) then aa al else bif !decide (h=a.1) then aa al else(nz n e).bind λx=>(BJ n m).bind λy=>(oE n x y).bind λi=>aQ (fun(z:Bool)=>bif z then aa al else(tj n (⟨a.2.1,a.2.2⟩:Prog) 1).bind λk=>bif aj (k<0) then aa al else bif !decide (k=a.1) then aa al else aa ab) λl=>(nA n i.1 d.1).bind λA=>bif !A then l ab else l (!(i.2==d.2))) λc=>bif aj (s.1<0) then c ab else(nA n b.1 d.1).bind λB=>bif !B then c ab else c (!(b.2==d.2))) λC=>(nA n b.1 d.1).bind λK=>bif !K then C ab else C (!(b.2==d.2)))
end Go.Lift
