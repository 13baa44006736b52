/- Tools. -/
import Derived.Test.YteifkndfpnkalabGreatVLiftSq
import Derived.Lib.SplitLaws
namespace Go.Lift
open Go
open Option renaming some -> aa, none -> ak, bind -> bQ
open Bool renaming true -> ab, false -> al
open Decidable renaming decide -> aj
open List renaming map -> bk
section
theorem bc{n:Int}(h: -9223372036854775808<=n/\n<=9223372036854775807):wr n=n:=IntWalk.i64_in n O
def ae{k:Type}(o:Option k)(Q:k->Prop):Prop:= ∃r,o=aa r/\Q r
section
variable {α β R rV:Type}{Q:R->Prop}
theorem ae.some{r:R}(h:Q r):ae (some r) Q:=⟨r,rfl,h⟩
theorem ae.bind{o:Option α}{f:α->Option R}(h:ae o λx=>ae (f x) Q):ae (bQ o f) Q:=by obtain⟨x,rfl,r,a,b⟩:=h;exact⟨r,a,b⟩
theorem hE{o:Option α}{f:α->Option R}{P:α->Prop}(h:ae o P)(k: ∀x,P x->ae (f x) Q):ae (bQ o f) Q:=by obtain⟨x,rfl,h⟩:=h;exact k x h
theorem ah{o:Option α}{f:α->Option R}{x:α}(h:o=Option.some x)(k:ae (f x) Q):ae (bQ o f) Q:=by subst h;exact k
theorem ae.mono{o:Option R}{P:R->Prop}(h:ae o P)(k: ∀x,P x->Q x):ae o Q:=by obtain⟨x,rfl,h⟩:=h;exact⟨x,rfl,k x h⟩
theorem ae.cond{c:Bool}{A B:Option R}(a:c=ab->ae A Q)(b:c=al->ae B Q):ae (bif c then A else B) Q:=by
 cases c with
 |true=>exact a rfl
 |false=>exact b rfl
variable {p:Prop}{k:Type}{l:List k}
theorem a1[Decidable p]{A B:Option R}(a:p->ae A Q)(b: ¬p->ae B Q):ae (bif decide p then A else B) Q:=
 ae.cond (λh=>a (e3 h)) λh=>b (of_decide_eq_false h)
theorem dL[Decidable p]{A B:Option R}(a: ¬p->ae A Q)(b:p->ae B Q):ae (bif !decide p then A else B) Q:=
 ae.cond (λh=>a (by simpa using h)) λh=>b (by simpa using h)
theorem ae.aS{a:rV->Option R}{t:(rV->Option R)->Option R}(P:rV->Prop)(b: ∀j,(∀z,P z->ae (j z) Q)->ae (t j) Q)(c: ∀z,P z->ae (a z) Q):ae (aS a t) Q:=b a c
theorem ae.loop{a:(rV->Option R)->rV->Option R}(I:rV->Prop)(mj :rV->Nat)
  (h: ∀b x,I x->(∀y,I y-> mj y< mj x->ae (b y) Q)->ae (a b x) Q): ∀(n:Nat) (x:rV),I x-> mj x<n->ae (bz a n x) Q
 |0,_,_,c=>br c (o6 _)
 |n+1,x,d,c=>h _ x d λy e i=>ae.loop I mj h n y e O
theorem ae.eq{o:Option R}{r:R}(h:ae o λx=>x=r):o=Option.some r:=by obtain⟨x,rfl,rfl⟩:=h;rfl
theorem ae.of{o:Option R}{r:R}(h:o=Option.some r)(k:Q r):ae o Q:=⟨r,h,k⟩
end
variable {p:Prop}{k:Type}{l:List k}
theorem bo{i:Nat}{x:k}(h:l[i]? =aa x):aB l (i:Int)=aa x:=by unfold aB;rw[bg O,Int.toNat_natCast];exact h
theorem pj{i:Int}(b:0<=i)(h:i<l.length): ∃x,aB l i=aa x/\l[i.toNat]? =aa x:=by
 have a:i.toNat<l.length:=O
 exact⟨l[i.toNat],by unfold aB;rw[bg b,bC a],bC a⟩
theorem iR{a b:Int}(c:0<=a)(d:a<=b)(e:b<=l.length):sub l a b=aa ((l.take b.toNat).drop a.toNat):=by unfold sub;rw[bg ⟨c,d,e⟩]
theorem dM{a b:List k}(h:a.length+b.length<=1000000000):app a b=aa (a++b):=by unfold app;rw[bg h]
theorem Qh{a b:List UInt8}(h:(a.length:Int)+b.length<=9223372036854775807):cat a b=aa (a++b):=by unfold cat;rw[bg h]
end
set_option linter.unusedVariables false
structure cz where
 name:List UInt8
 b9:List Int
 deriving Inhabited
abbrev a6(x:cz):List T:=[T.str x.name,T.bG (bk ai x.b9)]
theorem rp(x:cz):(a6 x).length=2:=rfl
structure aE where
 aM:List Int
 const:Int
 deriving Inhabited
abbrev aq(x:aE):List T:=[T.bG (bk ai x.aM),T.int .i64 x.const]
theorem f'(x:aE):(aq x).length=2:=rfl
structure cx where
 array:List UInt8
 ba:List aE
 deriving Inhabited
abbrev eI(x:cx):List T:=[T.str x.array,T.bG (bk aq x.ba)]
theorem EL(x:cx):(eI x).length=2:=rfl
structure Expr where
 kind:Int
 num:Int
 index:aE
 read:cx
 aZ:List Expr
instance:Inhabited Expr:=⟨⟨0,0,(⟨[],0⟩:aE),(⟨[],[]⟩:cx),[]⟩⟩
mutual
def aJ:Expr->List T
 |⟨a0,aP,a2,a3,a4⟩=>[T.int .i64 a0,T.int .i64 aP,T.bG (bk ai a2.aM),T.int .i64 a2.const,T.str a3.array,T.bG (bk aq a3.ba),T.bG (qi a4)]
def qi:List Expr->List (List T)
 | []=>[]
 |x::l=>aJ x::qi l
end
theorem FJ: ∀l:List Expr,qi l=bk aJ l
 | []=>by simp[qi]
 |x::l=>by simp[qi,FJ l]
abbrev bn(x:Expr):List T:=[T.int .i64 x.kind,T.int .i64 x.num,T.bG (bk ai x.index.aM),T.int .i64 x.index.const,T.str x.read.array,T.bG (bk aq x.read.ba),T.bG (bk aJ x.aZ)]
theorem cP(x:Expr):aJ x=bn x:=by cases x;simp[aJ,FJ]
theorem j7(x:Expr):(aJ x).length=7:=by rw[cP];rfl
theorem r5(x:Expr):mf 7 1 (bn x)=bk aJ [x]:=by rw[show bk aJ [x]=[bn x] from by simp only[bk,cP]];rfl
structure Stmt where
 write:cx
 value:Expr
 deriving Inhabited
abbrev ax(x:Stmt):List T:=[T.str x.write.array,T.bG (bk aq x.write.ba),T.int .i64 x.value.kind,T.int .i64 x.value.num,T.bG (bk ai x.value.index.aM),T.int .i64 x.value.index.const,T.str x.value.read.array,T.bG (bk aq x.value.read.ba),T.bG (bk aJ x.value.aZ)]
theorem gT(x:Stmt):(ax x).length=9:=rfl
structure Loop where
 bq:List aE
 aL:List aE
 deriving Inhabited
abbrev aw(x:Loop):List T:=[T.bG (bk aq x.bq),T.bG (bk aq x.aL)]
theorem fy(x:Loop):(aw x).length=2:=rfl
structure Part where
 nest:List Loop
 body:List Stmt
 deriving Inhabited
abbrev an(x:Part):List T:=[T.bG (bk aw x.nest),T.bG (bk ax x.body)]
theorem j6(x:Part):(an x).length=2:=rfl
structure Prog where
 a7:List cz
 parts:List Part
 deriving Inhabited
abbrev e6(x:Prog):List T:=[T.bG (bk a6 x.a7),T.bG (bk an x.parts)]
structure cN where
 part:Int
 stmt:Int
 db:List Int
 deriving Inhabited
abbrev cJ(x:cN):List T:=[T.int .i64 x.part,T.int .i64 x.stmt,T.bG (bk ai x.db)]
theorem AW(x:cN):(cJ x).length=3:=rfl
structure k2 where
 reads:List Int
 write:Int
 deriving Inhabited
abbrev dt(x:k2):List T:=[T.bG (bk ai x.reads),T.int .i64 x.write]
theorem Mx(x:k2):(dt x).length=2:=rfl
structure Step where
 kind:Int
 part:Int
 a:Int
 b:Int
 deriving Inhabited
abbrev cW(x:Step):List T:=[T.int .i64 x.kind,T.int .i64 x.part,T.int .i64 x.a,T.int .i64 x.b]
structure fY where
 eQ:Int
 eR:Int
 kinds:Int
 deriving Inhabited
abbrev di(x:fY):List T:=[T.int .i64 x.eQ,T.int .i64 x.eR,T.int .i64 x.kinds]
theorem Bq(x:fY):(di x).length=3:=rfl
structure nm where
 nest:List Loop
 steps:Int
 out:List (List Int)
 deriving Inhabited
structure og where
 program:Prog
 list:List cN
 reads:List (List Int)
 iX:List Int
 deriving Inhabited
abbrev eC(x:og):List T:=[T.bG (bk a6 x.program.a7),T.bG (bk an x.program.parts),T.bG (bk cJ x.list),T.bG (bk (bj ai) x.reads),T.bG (bk ai x.iX)]
def Bu(n:Nat)(a:List Int)(left:Int):Option Int:=(bif aj (wr (left-(a.length:Int))<0) then aa (-1) else aa (wr (left-(a.length:Int))))
def Gt(n:Nat)(a:cz)(left:Int):Option Int:=(bif aj (wr (left-(a.name.length:Int))<0) then aa (-1) else(Bu n a.b9 (wr (left-(a.name.length:Int)))).bind λb=>bif aj (b<0) then aa (-1) else aa b)
def FE(n:Nat)(a:List cz)(left:Int):Option Int:=(bif aj (wr (left-(a.length:Int))<0) then aa (-1) else bz (λe ((c,b):Int×Int)=>bif aj (b<a.length) then(aB a b).bind λh=>(Gt n h c).bind λd=>bif aj (d<0) then aa (-1) else e (d,wr (b+1)) else aa c) n (wr (left-(a.length:Int)),0))
def E2(n:Nat)(a:aE)(left:Int):Option Int:=((Bu n a.aM left).bind λb=>bif aj (b<0) then aa (-1) else aa b)
def zu(n:Nat)(a:List aE)(left:Int):Option Int:=(bif aj (wr (left-(a.length:Int))<0) then aa (-1) else bz (λe ((c,b):Int×Int)=>bif aj (b<a.length) then(aB a b).bind λh=>(E2 n h c).bind λd=>bif aj (d<0) then aa (-1) else e (d,wr (b+1)) else aa c) n (wr (left-(a.length:Int)),0))
def E3(n:Nat)(a:cx)(left:Int):Option Int:=(bif aj (wr (left-(a.array.length:Int))<0) then aa (-1) else(zu n a.ba (wr (left-(a.array.length:Int)))).bind λb=>bif aj (b<0) then aa (-1) else aa b)
def Gs(n:Nat)(self:Expr->Int->Option Int)(a:List Expr)(left:Int):Option Int:=(bif aj (wr (left-(a.length:Int))<0) then aa (-1) else bz (λe ((c,b):Int×Int)=>bif aj (b<a.length) then(aB a b).bind λh=>(self h c).bind λd=>bif aj (d<0) then aa (-1) else e (d,wr (b+1)) else aa c) n (wr (left-(a.length:Int)),0))
def rP:Nat->Expr->Int->Option Int
 |0,_,_=>ak
 |n+1,a,left=>((E2 n a.index left).bind λb=>bif aj (b<0) then aa (-1) else(E3 n a.read b).bind λc=>bif aj (c<0) then aa (-1) else(Gs n (rP n) a.aZ c).bind λd=>bif aj (d<0) then aa (-1) else aa d)
def GM(n:Nat)(a:Stmt)(left:Int):Option Int:=((E3 n a.write left).bind λb=>bif aj (b<0) then aa (-1) else(rP n a.value b).bind λc=>bif aj (c<0) then aa (-1) else aa c)
def F8(n:Nat)(a:List Stmt)(left:Int):Option Int:=(bif aj (wr (left-(a.length:Int))<0) then aa (-1) else bz (λe ((c,b):Int×Int)=>bif aj (b<a.length) then(aB a b).bind λh=>(GM n h c).bind λd=>bif aj (d<0) then aa (-1) else e (d,wr (b+1)) else aa c) n (wr (left-(a.length:Int)),0))
def GO(n:Nat)(a:Loop)(left:Int):Option Int:=((zu n a.bq left).bind λb=>bif aj (b<0) then aa (-1) else(zu n a.aL b).bind λc=>bif aj (c<0) then aa (-1) else aa c)
def F9(n:Nat)(a:List Loop)(left:Int):Option Int:=(bif aj (wr (left-(a.length:Int))<0) then aa (-1) else bz (λe ((c,b):Int×Int)=>bif aj (b<a.length) then(aB a b).bind λh=>(GO n h c).bind λd=>bif aj (d<0) then aa (-1) else e (d,wr (b+1)) else aa c) n (wr (left-(a.length:Int)),0))
def GN(n:Nat)(a:Part)(left:Int):Option Int:=((F9 n a.nest left).bind λb=>bif aj (b<0) then aa (-1) else(F8 n a.body b).bind λc=>bif aj (c<0) then aa (-1) else aa c)
def M0(n:Nat)(a:List Part)(left:Int):Option Int:=(bif aj (wr (left-(a.length:Int))<0) then aa (-1) else bz (λe ((c,b):Int×Int)=>bif aj (b<a.length) then(aB a b).bind λh=>(GN n h c).bind λd=>bif aj (d<0) then aa (-1) else e (d,wr (b+1)) else aa c) n (wr (left-(a.length:Int)),0))
def Fe(n:Nat)(a:Prog)(left:Int):Option Int:=((FE n a.a7 left).bind λb=>bif aj (b<0) then aa (-1) else(M0 n a.parts b).bind λc=>bif aj (c<0) then aa (-1) else aa c)
def Aj(n:Nat)(a:List cz):Option Bool:=(bz (λl (d:Int)=>bif aj (d<a.length) then(aB a d).bind λb=>aS (fun(m:Bool)=>bif m then aa al else bz (λo (h:Int)=>bif aj (h<b.b9.length) then aS (fun(i:Bool)=>bif i then aa al else o (wr (h+1))) (λk=>(aB b.b9 h).bind λe=>bif aj (e<1) then k ab else k (aj ((6:Int)<e))) else l (wr (d+1))) n 0) (λc=>bif !decide ((b.name.length:Int)=1) then c ab else bif Op.bytesLess b.name [65] then c ab else bif(!Op.bytesLess b.name [68]&& !b.name==[68]) then c ab else bif aj ((0:Int)<d) then(aB a (wr (d-1))).bind λp=>bif !Op.bytesLess p.name b.name then c ab else bif aj ((b.b9.length:Int)<1) then c ab else c (aj ((2:Int)<b.b9.length)) else bif aj ((b.b9.length:Int)<1) then c ab else c (aj ((2:Int)<b.b9.length))) else aa (aj ((a.length:Int)<=4))) n 0)
def qN(n:Nat)(a:aE):Option aE:=(bif aj ((a.aM.length:Int)=0) then aa (⟨[],a.const⟩:aE) else(app [] a.aM).bind λb=>aa (⟨b,a.const⟩:aE))
def qO(n:Nat)(a:cx):Option cx:=(bz (λd ((c,b):(List aE)×Int)=>bif aj (b<a.ba.length) then(aB a.ba b).bind λe=>(qN n e).bind λh=>(app c [h]).bind λi=>d (i,wr (b+1)) else aa (⟨a.array,c⟩:cx)) n ([],0))
def tS:Nat->(List cx)->Expr->Option (List cx)
 |0,_,_=>ak
 |n+1,out,e=>(aS (fun(i:(List cx))=>bz (λk ((d,a):(List cx)×Int)=>bif aj (a<e.aZ.length) then(aB e.aZ a).bind λb=>(tS n d b).bind λc=>k (c,wr (a+1)) else aa d) n (i,0)) λh=>bif aj (e.kind=3) then(qO n e.read).bind λl=>(app out [l]).bind λm=>h m else h out)
def xw(n:Nat)(a:cz):Option Int:=(bz (λd ((c,b):Int×Int)=>bif aj (b<a.b9.length) then(aB a.b9 b).bind λe=>d (wr (c*e),wr (b+1)) else aa c) n (1,0))
def oV(n:Nat)(a:aE)(b:List Int):Option Int:=(bz (λh ((d,c):Int×Int)=>aS (fun(i:Bool)=>bif i then(aB a.aM c).bind λk=>(aB b c).bind λl=>h (wr (d+(wr (k*l))),wr (c+1)) else aa d) λe=>bif aj (c<b.length) then e (aj (c<a.aM.length)) else e al) n (a.const,0))
def xx(n:Nat)(b:List cz)(a:cx)(c:List Int):Option Int:=(bz (λr ((p,k):Int×Int)=>bif aj (k<b.length) then(aB b k).bind λe=>bif !decide (e.name=a.array) then(xw n e).bind λs=>r (wr (p+s),wr (k+1)) else bz (λw ((q,h):Int×Int)=>bif aj (h<a.ba.length) then bif !decide ((a.ba.length:Int)=e.b9.length) then aa (-1) else(aB a.ba h).bind λx=>(oV n x c).bind λd=>aS (fun(l:Bool)=>bif l then aa (-1) else(aB e.b9 h).bind λm=>w (wr ((wr (q*m))+d),wr (h+1))) (λi=>bif aj (d<0) then i ab else(aB e.b9 h).bind λo=>i (aj (o<=d))) else aa (wr (p+q))) n (0,0) else aa (-1)) n (0,0))
def wQ(n:Nat)(b:List cz)(s:Stmt)(a:List Int):Option ((List Int)×Int×Bool):=((tS n [] s.value).bind λd=>bz (λk ((e,c):(List Int)×Int)=>bif aj (c<d.length) then(aB d c).bind λl=>(xx n b l a).bind λh=>bif aj (h<0) then aa ([],0,al) else(app e [h]).bind λm=>k (m,wr (c+1)) else(xx n b s.write a).bind λi=>bif aj (i<0) then aa ([],0,al) else aa (e,i,ab)) n ([],0))
def BF(n:Nat)(a:Int):Option Int:=(aS (fun(d:Bool)=>bif d then aa 0 else aS (fun(e:Bool)=>bif e then aa 2 else aa (-1)) λb=>bif aj (a=4) then b (aj (a=4)) else bif aj (a=5) then b (aj (a=5)) else b (aj (a=6))) λc=>bif aj (a=1) then c (aj (a=1)) else bif aj (a=2) then c (aj (a=2)) else c (aj (a=3)))
def rf(n:Nat)(a b:Int):Option Bool:=(aS (fun(d:Bool)=>aa d) λc=>bif aj (wr (0-b)<=a) then c (aj (a<=b)) else c al)
def vW(n:Nat)(a:aE):Option Bool:=(bz (λd (b:Int)=>bif aj (b<a.aM.length) then(aB a.aM b).bind λe=>(rf n e 9).bind λh=>bif !h then aa al else d (wr (b+1)) else aS (fun(i:Bool)=>aa i) λc=>bif aj ((a.aM.length:Int)=4) then(rf n a.const 99).bind λk=>c k else c al) n 0)
def wR(n:Nat)(a:cx):Option Bool:=(aS (fun(c:Bool)=>aa c) λb=>bif aj (a.array=[]) then b (aj ((a.ba.length:Int)=0)) else b al)
def xd(n:Nat)(a:aE):Option Bool:=(aS (fun(c:Bool)=>aa c) λb=>bif aj ((a.aM.length:Int)=0) then b (aj (a.const=0)) else b al)
def oP(n:Nat)(a:aE):Option Int:=(bz (λe ((c,b):Int×Int)=>bif aj (b<a.aM.length) then aS (fun(h:Int)=>e (h,wr (b+1))) (λd=>(aB a.aM b).bind λi=>bif !decide (i=0) then d (wr (b+1)) else d c) else aa c) n (0,0))
def zK(n:Nat)(a:cx)(b:Int):Option Bool:=(bz (λi (d:Int)=>bif aj (d<a.ba.length) then aS (fun(k:Bool)=>bif k then aa al else i (wr (d+1))) (λe=>(aB a.ba d).bind λh=>(vW n h).bind λl=>bif !l then e ab else(oP n h).bind λm=>e (aj (b<m))) else aS (fun(o:Bool)=>aa o) λc=>bif aj ((a.array.length:Int)=1) then bif !Op.bytesLess a.array [65] then bif(Op.bytesLess a.array [68]||a.array==[68]) then bif aj ((1:Int)<=a.ba.length) then c (aj ((a.ba.length:Int)<=2)) else c al else c al else c al else c al) n 0)
def B9(n:Nat)(e:Expr)(a:Int):Option Bool:=(bif aj (e.kind=2) then aS (fun(q:Bool)=>aa q) (λd=>bif aj (e.num=0) then(wR n e.read).bind λr=>bif r then(vW n e.index).bind λs=>bif s then(oP n e.index).bind λw=>d (aj (w<=a)) else d al else d al else d al) else bif aj (e.kind=3) then aS (fun(x:Bool)=>aa x) (λh=>bif aj (e.num=0) then(xd n e.index).bind λy=>bif y then(zK n e.read a).bind λz=>h z else h al else h al) else bif aj (e.kind=1) then aS (fun(i:Bool)=>aa i) (λb=>bif aj ((0:Int)<=e.num) then bif aj (e.num<=99) then(xd n e.index).bind λk=>bif k then(wR n e.read).bind λl=>b l else b al else b al else b al) else aS (fun(m:Bool)=>aa m) λc=>bif aj (e.num=0) then(xd n e.index).bind λo=>bif o then(wR n e.read).bind λp=>c p else c al else c al)
def rA:Nat->Expr->Int->Int->Option Bool
 |0,_,_,_=>ak
 |n+1,e,b,a=>(aS (fun(h:Bool)=>bif h then aa al else bz (λi (c:Int)=>bif aj (c<e.aZ.length) then(aB e.aZ c).bind λk=>(rA n k b (wr (a-1))).bind λl=>bif !l then aa al else i (wr (c+1)) else aa ab) n 0) λd=>bif aj (a<1) then d ab else(BF n e.kind).bind λm=>bif !decide (m=e.aZ.length) then d ab else(B9 n e b).bind λo=>d (!o))
def tR:Nat->Expr->Int->Option Int
 |0,_,_=>ak
 |n+1,e,a=>(bz (λh ((c,b):Int×Int)=>aS (fun(i:Bool)=>bif i then(aB e.aZ b).bind λk=>(tR n k (wr (a-1))).bind λl=>h (wr (c+l),wr (b+1)) else aa c) λd=>bif aj (b<e.aZ.length) then d (aj ((0:Int)<a)) else d al) n (1,0))
def zr(n:Nat)(s:Stmt)(a:Int):Option Bool:=(aS (fun(c:Bool)=>bif c then aa al else(tR n s.value 5).bind λd=>aa (aj (d<=12))) λb=>bif aj (a<0) then b ab else bif aj ((4:Int)<a) then b ab else(zK n s.write a).bind λe=>bif !e then b ab else(rA n s.value a 5).bind λh=>b (!h))
def AQ(n:Nat)(p:List Int):Option Bool:=(bz (λb (a:Int)=>bif aj (a<p.length) then(aB p a).bind λc=>(rf n c 9999).bind λd=>bif !d then aa al else b (wr (a+1)) else aa (aj ((p.length:Int)<=4))) n 0)
def z8(n:Nat)(a:Loop)(p:List Int):Option (Int×Int):=((aB a.bq 0).bind λs=>(oV n s p).bind λw=>(aB a.aL 0).bind λx=>(oV n x p).bind λy=>bz (λz ((i,k):Int×Int)=>bif aj (k<a.bq.length) then aS (fun(l:Int)=>z (l,wr (k+1))) (λr=>(aB a.bq k).bind λA=>(oV n A p).bind λd=>bif aj (i<d) then r d else r i) else bz (λm ((b,c):Int×Int)=>bif aj (c<a.aL.length) then aS (fun(o:Int)=>m (o,wr (c+1))) (λe=>(aB a.aL c).bind λq=>(oV n q p).bind λh=>bif aj (h<b) then e h else e b) else aa (i,b)) n (y,1)) n (w,1))
def pT:Nat->(List (List Int))->(List Loop)->(List Int)->Option (List (List Int))
 |0,_,_,_=>ak
 |n+1,out,nest,p=>(bif aj ((p.length:Int)=nest.length) then(app [] p).bind λl=>(app out [l]).bind λm=>aa m else(aB nest p.length).bind λo=>(z8 n o p).bind λi=>bz (λq ((a,b):(List (List Int))×Int)=>aS (fun(c:Bool)=>bif c then(app [] p).bind λd=>(app d [b]).bind λe=>(pT n a nest e).bind λh=>q (h,wr (b+1)) else aa a) λk=>bif aj (b<i.2) then k (aj ((a.length:Int)<=120)) else k al) n (out,i.1))
def xy(n:Nat)(a:List aE)(b:Int):Option Bool:=(bz (λi (c:Int)=>bif aj (c<a.length) then aS (fun(k:Bool)=>bif k then aa al else i (wr (c+1))) (λd=>(aB a c).bind λe=>(vW n e).bind λl=>bif !l then d ab else(oP n e).bind λm=>d (aj (b<m))) else aS (fun(o:Bool)=>aa o) λh=>bif aj ((1:Int)<=a.length) then h (aj ((a.length:Int)<=2)) else h al) n 0)
def EK(n:Nat)(a:List Loop):Option Bool:=(bz (λh (b:Int)=>aS (fun(i:Bool)=>bif i then aS (fun(k:Bool)=>bif k then aa al else h (wr (b+1))) (λc=>(aB a b).bind λd=>(xy n d.bq b).bind λl=>bif !l then c ab else(xy n d.aL b).bind λm=>c (!m)) else aa (aj ((a.length:Int)<=4))) λe=>bif aj (b<a.length) then e (aj ((a.length:Int)<=4)) else e al) n 0)
def ry:Nat->(List Loop)->(List Int)->Int->Option Int
 |0,_,_,_=>ak
 |n+1,nest,p,a=>(bif aj ((p.length:Int)=nest.length) then aa 1 else(aB nest p.length).bind λi=>(z8 n i p).bind λe=>bz (λk ((b,c):Int×Int)=>aS (fun(l:Bool)=>bif l then(app [] p).bind λm=>(app m [c]).bind λo=>(ry n nest o (wr (a-b))).bind λd=>k (wr (b+d),wr (c+1)) else aa b) λh=>bif aj (c<e.2) then h (aj (b<=a)) else h al) n (1,e.1))
def Ed(n:Nat)(a:List Loop):Option ((List (List Int))×Bool):=(aS (fun(d:Bool)=>bif d then aa ([],al) else(pT n [] a []).bind λb=>bif aj ((120:Int)<b.length) then aa ([],al) else aa (b,ab)) λc=>(EK n a).bind λe=>bif !e then c ab else(ry n a [] 1200).bind λh=>c (aj ((1200:Int)<h)))
def BE(n:Nat)(b:List cz)(a:Part):Option (Int×Bool):=((Ed n a.nest).bind λe=>aS (fun(q:Bool)=>bif q then aa (0,al) else bz (λr (h:Int)=>bif aj (h<a.body.length) then(aB a.body h).bind λp=>(zr n p a.nest.length).bind λs=>bif !s then aa (0,al) else bz (λw (i:Int)=>bif aj (i<e.1.length) then(aB e.1 i).bind λc=>(wQ n b p c).bind λk=>aS (fun(l:Bool)=>bif l then aa (0,al) else w (wr (i+1))) (λd=>bif !k.2.2 then d ab else(AQ n c).bind λm=>d (!m)) else r (wr (h+1))) n 0 else aa (wr ((e.1.length:Int)*(a.body.length:Int)),ab)) n 0) λo=>bif !e.2 then o ab else bif aj ((a.body.length:Int)<1) then o ab else o (aj ((4:Int)<a.body.length)))
def lM(n:Nat)(p:Prog):Option Bool:=(aS (fun(e:Bool)=>bif e then aa al else bz (λh ((b,a):Int×Int)=>bif aj (a<p.parts.length) then(aB p.parts a).bind λi=>(BE n p.a7 i).bind λc=>bif !c.2 then aa al else h (wr (b+c.1),wr (a+1)) else aa (aj (b<=120))) n (0,0)) λd=>(Aj n p.a7).bind λk=>bif !k then d ab else d (aj ((4:Int)<p.parts.length)))
def xz(n:Nat)(a:List Loop):Option (List Loop):=(bz (λx ((s,i):(List Loop)×Int)=>bif aj (i<a.length) then bz (λy ((w,k):(List aE)×Int)=>(aB a i).bind λh=>bif aj (k<h.bq.length) then(aB h.bq k).bind λc=>(app [] c.aM).bind λl=>(app w [(⟨l,c.const⟩:aE)]).bind λm=>y (m,wr (k+1)) else bz (λo ((d,b):(List aE)×Int)=>bif aj (b<h.aL.length) then(aB h.aL b).bind λe=>(app [] e.aM).bind λp=>(app d [(⟨p,e.const⟩:aE)]).bind λq=>o (q,wr (b+1)) else(app s [(⟨w,d⟩:Loop)]).bind λr=>x (r,wr (i+1))) n ([],0)) n ([],0) else aa s) n ([],0))
def rz:Nat->Expr->Option Expr
 |0,_=>ak
 |n+1,e=>((qN n e.index).bind λc=>(qO n e.read).bind λd=>bz (λh ((b,a):(List Expr)×Int)=>bif aj (a<e.aZ.length) then(aB e.aZ a).bind λi=>(rz n i).bind λk=>(app b [k]).bind λl=>h (l,wr (a+1)) else aa (⟨e.kind,e.num,c,d,b⟩:Expr)) n ([],0))
def xe(n:Nat)(s:Stmt):Option Stmt:=((qO n s.write).bind λa=>(rz n s.value).bind λb=>aa (⟨a,b⟩:Stmt))
def tV(n:Nat)(p:Prog):Option Prog:=(bz (λx ((r,d):(List cz)×Int)=>bif aj (d<p.a7.length) then(aB p.a7 d).bind λs=>(app [] s.b9).bind λy=>(app r [(⟨s.name,y⟩:cz)]).bind λz=>x (z,wr (d+1)) else bz (λe ((w,h):(List Part)×Int)=>bif aj (h<p.parts.length) then(aB p.parts h).bind λa=>(xz n a.nest).bind λi=>bz (λk ((c,b):(List Stmt)×Int)=>bif aj (b<a.body.length) then(aB a.body b).bind λl=>(xe n l).bind λm=>(app c [m]).bind λo=>k (o,wr (b+1)) else(app w [(⟨i,c⟩:Part)]).bind λq=>e (q,wr (h+1))) n ([],0) else aa (⟨r,w⟩:Prog)) n ([],0)) n ([],0))
def jA(n:Nat)(p:Prog)(a many:Int)(b:List Part):Option (Prog×Bool):=((tV n p).bind λc=>(sub c.parts 0 a).bind λe=>(app [] e).bind λh=>(app h b).bind λi=>(sub c.parts (wr (a+many)) (c.parts.length:Int)).bind λk=>(app i k).bind λd=>(lM n (⟨c.a7,d⟩:Prog)).bind λl=>bif !l then aa ((⟨[],[]⟩:Prog),al) else(tV n (⟨c.a7,d⟩:Prog)).bind λm=>aa (m,ab))
def pv(n:Nat)(p:Prog):Option (List cN):=(bz (λs ((m,c):(List cN)×Int)=>bif aj (c<p.parts.length) then(aB p.parts c).bind λo=>(pT n [] o.nest []).bind λq=>bz (λd ((r,e):(List cN)×Int)=>bif aj (e<q.length) then bz (λh ((b,a):(List cN)×Int)=>bif aj (a<o.body.length) then(aB q e).bind λi=>(app [] i).bind λk=>(app b [(⟨c,a,k⟩:cN)]).bind λl=>h (l,wr (a+1)) else d (b,wr (e+1))) n (r,0) else s (r,wr (c+1))) n (m,0) else aa m) n ([],0))
def wv(n:Nat)(a:List Bool):Option (List Int):=(bz (λe ((c,b):(List Int)×Int)=>bif aj (b<a.length) then aS (fun(h:(List Int))=>e (h,wr (b+1))) (λd=>(aB a b).bind λi=>bif i then(app c [b]).bind λk=>d k else d c) else aa c) n ([],0))
def xb(n:Nat)(p:Prog):Option (List k2):=((pv n p).bind λd=>bz (λi ((e,a):(List k2)×Int)=>bif aj (a<d.length) then(aB d a).bind λb=>(aB p.parts b.part).bind λk=>(aB k.body b.stmt).bind λl=>(wQ n p.a7 l b.db).bind λh=>(app e [(⟨h.1,h.2.1⟩:k2)]).bind λc=>i (c,wr (a+1)) else aa e) n ([],0))
def Ai(n:Nat)(b:List k2)(a c:Int):Option Int:=(bz (λe (d:Int)=>bif aj ((0:Int)<=d) then(aB b d).bind λh=>bif aj (h.write=c) then aa d else e (wr (d-1)) else aa (-1)) n (wr (a-1)))
def DH(n:Nat)(p:Prog):Option (List Int):=((lM n p).bind λW=>bif !W then aa [] else(xb n p).bind λc=>(mk c.length al).bind λX=>bz (λf ((m,a):(List Bool)×Int)=>bif aj ((0:Int)<=a) then bz (λo ((R,q):Bool×Int)=>bif aj (q<c.length) then aS (fun(r:Bool)=>o (r,wr (q+1))) (λh=>bif R then(aB c q).bind λs=>(aB c a).bind λw=>h (!decide (s.write=w.write)) else h al) else aS (fun(x:(List Bool))=>bz (λy ((b,d):(List Bool)×Int)=>aS (fun(z:Bool)=>bif z then aS (fun(A:(List Bool))=>y (A,wr (d+1))) (λi=>(aB c a).bind λB=>(aB B.reads d).bind λC=>(Ai n c a C).bind λe=>bif aj ((0:Int)<=e) then(aB b e).bind λg=>(cd b e ab).bind λD=>i D else i b) else f (b,wr (a-1))) λk=>(aB c a).bind λF=>bif aj (d<F.reads.length) then(aB b a).bind λG=>k G else k al) n (x,0)) λl=>(aB m a).bind λH=>bif H then(cd m a ab).bind λK=>l K else(cd m a R).bind λL=>l L) n (ab,wr (a+1)) else(wv n m).bind λQ=>aa Q) n (X,wr ((c.length:Int)-1)))
def DS(n:Nat)(x:cz):Option cz:=((app [] x.b9).bind λa=>aa (⟨x.name,a⟩:cz))
def vm(n:Nat)(a:List cz):Option (List cz):=(bz (λd ((c,b):(List cz)×Int)=>bif aj (b<a.length) then(aB a b).bind λe=>(DS n e).bind λh=>(app c [h]).bind λi=>d (i,wr (b+1)) else aa c) n ([],0))
def y4(n:Nat)(x:aE):Option aE:=((app [] x.aM).bind λa=>aa (⟨a,x.const⟩:aE))
def sF(n:Nat)(a:List aE):Option (List aE):=(bz (λd ((c,b):(List aE)×Int)=>bif aj (b<a.length) then(aB a b).bind λe=>(y4 n e).bind λh=>(app c [h]).bind λi=>d (i,wr (b+1)) else aa c) n ([],0))
def Ec(n:Nat)(x:Loop):Option Loop:=((sF n x.bq).bind λa=>(sF n x.aL).bind λb=>aa (⟨a,b⟩:Loop))
def vr(n:Nat)(a:List Loop):Option (List Loop):=(bz (λd ((c,b):(List Loop)×Int)=>bif aj (b<a.length) then(aB a b).bind λe=>(Ec n e).bind λh=>(app c [h]).bind λi=>d (i,wr (b+1)) else aa c) n ([],0))
def ta(n:Nat)(x:cx):Option cx:=((sF n x.ba).bind λa=>aa (⟨x.array,a⟩:cx))
def Kj(n:Nat)(self:Expr->Option Expr)(a:List Expr):Option (List Expr):=(bz (λd ((c,b):(List Expr)×Int)=>bif aj (b<a.length) then(aB a b).bind λe=>(self e).bind λh=>(app c [h]).bind λi=>d (i,wr (b+1)) else aa c) n ([],0))
def o1:Nat->Expr->Option Expr
 |0,_=>ak
 |n+1,x=>((y4 n x.index).bind λa=>(ta n x.read).bind λb=>(Kj n (o1 n) x.aZ).bind λc=>aa (⟨x.kind,x.num,a,b,c⟩:Expr))
def zg(n:Nat)(x:Stmt):Option Stmt:=((ta n x.write).bind λa=>(o1 n x.value).bind λb=>aa (⟨a,b⟩:Stmt))
def vo(n:Nat)(a:List Stmt):Option (List Stmt):=(bz (λd ((c,b):(List Stmt)×Int)=>bif aj (b<a.length) then(aB a b).bind λe=>(zg n e).bind λh=>(app c [h]).bind λi=>d (i,wr (b+1)) else aa c) n ([],0))
def zh(n:Nat)(x:Part):Option Part:=((vr n x.nest).bind λa=>(vo n x.body).bind λb=>aa (⟨a,b⟩:Part))
def vp(n:Nat)(a:List Part):Option (List Part):=(bz (λd ((c,b):(List Part)×Int)=>bif aj (b<a.length) then(aB a b).bind λe=>(zh n e).bind λh=>(app c [h]).bind λi=>d (i,wr (b+1)) else aa c) n ([],0))
def iL(n:Nat)(x:Prog):Option Prog:=((vm n x.a7).bind λa=>(vp n x.parts).bind λb=>aa (⟨a,b⟩:Prog))
def tC(n:Nat)(p:Prog)(a:Int):Option (Prog×Bool):=((iL n p).bind λb=>aS (fun(k:Bool)=>bif k then aa ((⟨[],[]⟩:Prog),al) else(DH n b).bind λi=>(pv n b).bind λl=>bz (λm (d:Int)=>bif aj (d<i.length) then(aB i d).bind λo=>(aB l o).bind λe=>bif aj (e.part=a) then aa ((⟨[],[]⟩:Prog),al) else m (wr (d+1)) else(jA n b a 1 []).bind λc=>aa (c.1,c.2)) n 0) λh=>(lM n b).bind λq=>bif !q then h ab else bif aj (a<0) then h ab else h (aj ((b.parts.length:Int)<=a)))
def BI(n:Nat)(a:Int):Option Expr:=(aa (⟨1,a,(⟨[],0⟩:aE),(⟨[],[]⟩:cx),[]⟩:Expr))
def BH(n:Nat)(e:Expr)(a b:Int):Option Expr:=(aS (fun(c:Int)=>aS (fun(i:Bool)=>bif i then aa e else(BI n c).bind λk=>aa k) λh=>bif aj (c<0) then h ab else h (aj ((99:Int)<c))) λd=>bif aj (e.kind=4) then d (wr (a+b)) else bif aj (e.kind=5) then d (wr (a-b)) else d (wr (a*b)))
def pV(n:Nat)(e:Expr)(a:Int):Option Bool:=(aS (fun(c:Bool)=>aa c) λb=>bif aj (e.kind=1) then b (aj (e.num=a)) else b al)
def z'(n:Nat)(e:Expr):Option Expr:=(aS (fun(D:Bool)=>bif D then(BI n e.index.const).bind λF=>aa F else bif aj ((e.aZ.length:Int)=0) then aa e else(aB e.aZ 0).bind λd=>(aB e.aZ 1).bind λh=>aS (fun(G:Bool)=>bif G then(BH n e d.num h.num).bind λH=>aa H else aS (fun(o:Bool)=>bif o then aa d else aS (fun(p:Bool)=>bif p then aa h else aS (fun(q:Bool)=>bif q then(BI n 0).bind λr=>aa r else aa e) λa=>bif aj (e.kind=6) then(pV n d 0).bind λs=>bif s then a ab else(pV n h 0).bind λw=>a w else a al) λb=>aS (fun(i:Bool)=>bif i then b i else bif aj (e.kind=6) then(pV n d 1).bind λx=>b x else b al) λk=>bif aj (e.kind=4) then(pV n d 0).bind λy=>k y else k al) λc=>aS (fun(l:Bool)=>bif l then c l else bif aj (e.kind=6) then(pV n h 1).bind λz=>c z else c al) λm=>bif !decide (e.kind=6) then(pV n h 0).bind λA=>m A else m al) λC=>bif aj (d.kind=1) then C (aj (h.kind=1)) else C al) λB=>bif aj (e.kind=2) then(oP n e.index).bind λK=>bif aj (K=0) then B (aj ((0:Int)<=e.index.const)) else B al else B al)
def rv:Nat->Expr->Option Expr
 |0,_=>ak
 |n+1,e=>((qN n e.index).bind λd=>(qO n e.read).bind λh=>bz (λi ((c,a):(List Expr)×Int)=>bif aj (a<e.aZ.length) then(aB e.aZ a).bind λk=>(rv n k).bind λl=>(app c [l]).bind λm=>i (m,wr (a+1)) else(z' n (⟨e.kind,e.num,d,h,c⟩:Expr)).bind λb=>aa b) n ([],0))
def Ao(n:Nat)(s:Stmt):Option (Stmt×Bool):=((zr n s 4).bind λa=>bif !a then aa ((⟨(⟨[],[]⟩:cx),(⟨0,0,(⟨[],0⟩:aE),(⟨[],[]⟩:cx),[]⟩:Expr)⟩:Stmt),al) else(qO n s.write).bind λb=>(rv n s.value).bind λc=>aa ((⟨b,c⟩:Stmt),ab))
def DV(n:Nat)(p:Prog):Option (Prog×Bool):=((iL n p).bind λo=>(lM n o).bind λr=>bif !r then aa ((⟨[],[]⟩:Prog),al) else(tV n o).bind λq=>bz (λs ((d,b):(List Part)×Int)=>bif aj (b<d.length) then bz (λe ((h,c):(List Part)×Int)=>(aB h b).bind λa=>bif aj (c<a.body.length) then(aB a.body c).bind λi=>(Ao n i).bind λk=>(cd a.body c k.1).bind λl=>(cd h b ({a with body:=l})).bind λm=>e (m,wr (c+1)) else s (h,wr (b+1))) n (d,0) else aa ((⟨q.a7,d⟩:Prog),ab)) n (q.parts,0))
def EG(n:Nat)(a:Int):Option Int:=(aS (fun(e:Bool)=>bif e then aa 3 else aS (fun(h:Bool)=>bif h then aa 2 else aS (fun(i:Bool)=>bif i then aa 1 else aa 0) λc=>bif aj (a=6) then c (aj (a=6)) else bif aj (a=9) then c (aj (a=9)) else c (aj (a=10))) λb=>bif aj (a=1) then b (aj (a=1)) else bif aj (a=2) then b (aj (a=2)) else bif aj (a=7) then b (aj (a=7)) else b (aj (a=8))) λd=>bif aj (a=3) then d (aj (a=3)) else bif aj (a=4) then d (aj (a=4)) else d (aj (a=5)))
def Ak(n:Nat)(s:Step):Option Bool:=((EG n s.kind).bind λd=>aS (fun(e:Bool)=>aa e) λc=>bif aj ((1:Int)<=s.kind) then bif aj (s.kind<=11) then bif aj ((0:Int)<d) then bif aj ((1:Int)<d) then bif aj ((2:Int)<d) then c ab else c (aj (s.b=0)) else bif aj (s.a=0) then bif aj ((2:Int)<d) then c ab else c (aj (s.b=0)) else c al else bif aj (s.part=0) then bif aj ((1:Int)<d) then bif aj ((2:Int)<d) then c ab else c (aj (s.b=0)) else bif aj (s.a=0) then bif aj ((2:Int)<d) then c ab else c (aj (s.b=0)) else c al else c al else c al else c al)
def nN(n:Nat)(p:Prog)(a b:Int):Option Bool:=(aS (fun(d:Bool)=>aa d) λc=>(lM n p).bind λe=>bif e then bif aj ((0:Int)<=a) then bif aj (a<p.parts.length) then bif aj ((0:Int)<=b) then(aB p.parts a).bind λh=>c (aj (b<h.nest.length)) else c al else c al else c al else c al)
def BC(n:Nat)(x:Loop)(v:Int):Option Bool:=(bz (λc (a:Int)=>bif aj (a<x.bq.length) then(aB x.bq a).bind λd=>(aB d.aM v).bind λe=>bif !decide (e=0) then aa ab else c (wr (a+1)) else bz (λh (b:Int)=>bif aj (b<x.aL.length) then(aB x.aL b).bind λi=>(aB i.aM v).bind λk=>bif !decide (k=0) then aa ab else h (wr (b+1)) else aa al) n 0) n 0)
def Aa(n:Nat)(p:List Int)(q:List Int):Option Bool:=(bz (λe (a:Int)=>aS (fun(h:Bool)=>bif h then(aB p a).bind λb=>(aB q a).bind λc=>bif !decide (b=c) then aa (aj (b<c)) else e (wr (a+1)) else aa (aj ((p.length:Int)<q.length))) λd=>bif aj (a<p.length) then d (aj (a<q.length)) else d al) n 0)
def xA(n:Nat)(a:List Int)(b:List Int):Option Bool:=(bif !decide ((a.length:Int)=b.length) then aa al else bz (λd (c:Int)=>bif aj (c<a.length) then(aB a c).bind λe=>(aB b c).bind λh=>bif !decide (e=h) then aa al else d (wr (c+1)) else aa ab) n 0)
def B8(n:Nat)(a:List (List Int))(d:List Int):Option (List (List Int)):=(bz (λy ((c,e,h):(List (List Int))×Bool×Int)=>bif aj (h<a.length) then(aB a h).bind λi=>(xA n i d).bind λz=>bif z then aa a else aS (fun((k,l):(List (List Int))×Bool)=>(app k [i]).bind λm=>y (m,l,wr (h+1))) (λw=>aS (fun(o:Bool)=>bif o then(app c [d]).bind λp=>w (p,ab) else w (c,e)) λx=>bif !e then(Aa n d i).bind λq=>x q else x al) else aS (fun(r:(List (List Int)))=>aa r) λb=>bif !e then(app c [d]).bind λs=>b s else b c) n ([],al,0))
def AM(n:Nat)(a:List Int)(b:List Int):Option (List Int):=(bz (λe ((d,c):(List Int)×Int)=>bif aj (c<a.length) then(aB a c).bind λh=>(aB b c).bind λi=>(app d [wr (h-i)]).bind λk=>e (k,wr (c+1)) else aa d) n ([],0))
def uy(n:Nat)(a:List Int)(b:Int):Option Bool:=(bz (λd (c:Int)=>bif aj (c<a.length) then(aB a c).bind λe=>bif aj (e=b) then aa ab else d (wr (c+1)) else aa al) n 0)
def AN(n:Nat)(a b:k2):Option Int:=(aS (fun(c:Int)=>aS (fun(d:Int)=>aS (fun(k:Int)=>aa k) λe=>bif aj (a.write=b.write) then e (wr (d+4)) else e d) λh=>(uy n a.reads b.write).bind λl=>bif l then h (wr (c+2)) else h c) λi=>(uy n b.reads a.write).bind λm=>bif m then i (wr (0+1)) else i 0)
def xc(n:Nat)(p:Prog):Option (List fY):=((xb n p).bind λd=>bz (λq ((o,a):(List fY)×Int)=>bif aj (a<d.length) then bz (λr ((h,e):(List fY)×Int)=>bif aj (e<d.length) then aS (fun(i:(List fY))=>r (i,wr (e+1))) (λb=>(aB d a).bind λk=>(aB d e).bind λl=>(AN n k l).bind λc=>bif !decide (c=0) then(app h [(⟨a,e,c⟩:fY)]).bind λm=>b m else b h) else q (h,wr (a+1))) n (o,wr (a+1)) else aa o) n ([],0))
def y8(n:Nat)(p:Prog)(a:Int):Option (List (List Int)):=((pv n p).bind λo=>(xc n p).bind λq=>bz (λw ((e,h):(List (List Int))×Int)=>bif aj (h<q.length) then aS (fun((x,y,z,A,B,C,i):Int×Int×(List Int)×Int×Int×(List Int)×(List (List Int)))=>w (i,wr (h+1))) (λr=>(aB q h).bind λs=>(aB o s.eQ).bind λb=>(aB o s.eR).bind λc=>aS (fun(k:Bool)=>bif k then(AM n c.db b.db).bind λl=>(B8 n e l).bind λm=>r (b.part,b.stmt,b.db,c.part,c.stmt,c.db,m) else r (b.part,b.stmt,b.db,c.part,c.stmt,c.db,e)) λd=>bif aj (b.part=a) then d (aj (c.part=a)) else d al) else aa e) n ([],0))
def Ee(n:Nat)(d:List Int):Option Int:=(bz (λb (a:Int)=>bif aj (a<d.length) then(aB d a).bind λc=>bif !decide (c=0) then aa a else b (wr (a+1)) else aa (-1)) n 0)
def xv(n:Nat)(d:List Int):Option Bool:=((Ee n d).bind λa=>aS (fun(c:Bool)=>aa c) λb=>bif aj (a<0) then b ab else(aB d a).bind λe=>b (aj ((0:Int)<e)))
def GK(n:Nat)(a:aE)(v:Int):Option aE:=((qN n a).bind λb=>(aB a.aM (wr (v+1))).bind λd=>(aB b.aM v).bind λi=>(cd b.aM v d).bind λc=>(aB a.aM v).bind λe=>(aB c (wr (v+1))).bind λk=>(cd c (wr (v+1)) e).bind λh=>aa (⟨h,b.const⟩:aE))
def j3(n:Nat)(a:aE)(x:Int)(b:aE)(y:Int):Option aE:=(bz (λe ((d,c):(List Int)×Int)=>bif aj (c<4) then(aB a.aM c).bind λh=>(aB b.aM c).bind λi=>(app d [wr ((wr (x*h))+(wr (y*i)))]).bind λk=>e (k,wr (c+1)) else aa (⟨d,wr ((wr (x*a.const))+(wr (y*b.const)))⟩:aE)) n ([],0))
def AP(n:Nat)(a:aE)(v:Int)(b:aE):Option aE:=((app [] a.aM).bind λc=>(aB c v).bind λi=>(cd c v 0).bind λd=>(aB a.aM v).bind λe=>(j3 n (⟨d,a.const⟩:aE) 1 b e).bind λh=>aa h)
def jB(n:Nat)(a:aE)(d v:Int)(b:aE):Option aE:=(bif aj (d=0) then(GK n a v).bind λo=>aa o else bif aj (d=1) then(AP n a v b).bind λp=>aa p else bz (λq ((e,c):(List Int)×Int)=>bif aj (c<4) then aS (fun(h:(List Int))=>q (h,wr (c+1))) (λi=>bif aj (c<v) then(aB a.aM c).bind λr=>(app e [r]).bind λs=>i s else bif aj (c=v) then(app e [0]).bind λk=>i k else(aB a.aM (wr (c-1))).bind λl=>(app e [l]).bind λm=>i m) else aa (⟨e,a.const⟩:aE)) n ([],0))
def xa(n:Nat)(a:List aE)(c v:Int)(b:aE):Option (List aE):=(bz (λh ((e,d):(List aE)×Int)=>bif aj (d<a.length) then(aB a d).bind λi=>(jB n i c v b).bind λk=>(app e [k]).bind λl=>h (l,wr (d+1)) else aa e) n ([],0))
def wE(n:Nat)(a:cx)(c v:Int)(b:aE):Option cx:=((xa n a.ba c v b).bind λd=>aa (⟨a.array,d⟩:cx))
def rB:Nat->Expr->Int->Int->aE->Option Expr
 |0,_,_,_,_=>ak
 |n+1,e,a,v,b=>(aS (fun((r,s):(List Int)×Int)=>aS (fun((w,x):(List UInt8)×(List aE))=>bz (λd ((l,c):(List Expr)×Int)=>bif aj (c<e.aZ.length) then(aB e.aZ c).bind λh=>(rB n h a v b).bind λi=>(app l [i]).bind λk=>d (k,wr (c+1)) else aa (⟨e.kind,e.num,(⟨r,s⟩:aE),(⟨w,x⟩:cx),l⟩:Expr)) n ([],0)) λm=>bif aj (e.kind=3) then(wE n e.read a v b).bind λo=>m (o.array,o.ba) else m ([],[])) λp=>bif aj (e.kind=2) then(jB n e.index a v b).bind λq=>p (q.aM,q.const) else p ([],0))
def BD(n:Nat)(a:List Stmt)(c v:Int)(b:aE):Option (List Stmt):=(bz (λi ((e,d):(List Stmt)×Int)=>bif aj (d<a.length) then(aB a d).bind λh=>(wE n h.write c v b).bind λk=>(rB n h.value c v b).bind λl=>(app e [(⟨k,l⟩:Stmt)]).bind λm=>i (m,wr (d+1)) else aa e) n ([],0))
def xu(n:Nat)(x:Loop)(a v:Int)(b:aE):Option Loop:=((xa n x.bq a v b).bind λc=>(xa n x.aL a v b).bind λd=>aa (⟨c,d⟩:Loop))
def tM(n:Nat)(x:Part)(a c v:Int)(b:aE):Option Part:=((sub x.nest 0 (wr (a+1))).bind λi=>(app [] i).bind λk=>(BD n x.body c v b).bind λl=>bz (λm ((h,d):(List Loop)×Int)=>bif aj (d<x.nest.length) then(aB x.nest d).bind λo=>(xu n o c v b).bind λp=>(app h [p]).bind λe=>m (e,wr (d+1)) else aa (⟨h,l⟩:Part)) n (k,wr (a+1)))
def DU(n:Nat)(p:Prog)(b a:Int):Option (Prog×Bool):=((iL n p).bind λh=>aS (fun(D:Bool)=>bif D then aa ((⟨[],[]⟩:Prog),al) else(y8 n h b).bind λC=>bz (λo (d:Int)=>bif aj (d<C.length) then(aB C d).bind λe=>(app [] e).bind λi=>(aB e (wr (a+1))).bind λq=>(aB i a).bind λF=>(cd i a q).bind λk=>(aB e a).bind λr=>(aB k (wr (a+1))).bind λG=>(cd k (wr (a+1)) r).bind λs=>(xv n s).bind λw=>bif !w then aa ((⟨[],[]⟩:Prog),al) else o (wr (d+1)) else(aB h.parts b).bind λx=>(tM n x (wr (a+1)) 0 a (⟨[],0⟩:aE)).bind λc=>(aB c.nest a).bind λy=>(aB c.nest (wr (a+1))).bind λz=>(cd c.nest a z).bind λl=>(aB l (wr (a+1))).bind λH=>(cd l (wr (a+1)) y).bind λA=>(jA n h b 1 [(⟨A,c.body⟩:Part)]).bind λm=>aa (m.1,m.2)) n 0) λB=>(nN n h b a).bind λK=>bif !K then B ab else(nN n h b (wr (a+1))).bind λL=>bif !L then B ab else(aB h.parts b).bind λQ=>(aB Q.nest (wr (a+1))).bind λR=>(BC n R a).bind λW=>B W)
def BG(n:Nat)(a:Loop):Option Bool:=(bz (λd (b:Int)=>bif aj (b<a.bq.length) then(aB a.bq b).bind λe=>(oP n e).bind λh=>bif aj ((0:Int)<h) then aa al else d (wr (b+1)) else bz (λi (c:Int)=>bif aj (c<a.aL.length) then(aB a.aL c).bind λk=>(oP n k).bind λl=>bif aj ((0:Int)<l) then aa al else i (wr (c+1)) else aa ab) n 0) n 0)
def wP(n:Nat)(x:Loop):Option (Int×Int×Bool):=(aS (fun(b:Bool)=>bif b then aa (0,0,al) else(aB x.bq 0).bind λc=>(aB x.aL 0).bind λd=>aa (c.const,d.const,ab)) λa=>bif !decide ((x.bq.length:Int)=1) then a ab else bif !decide ((x.aL.length:Int)=1) then a ab else(BG n x).bind λe=>a (!e))
def xf(n:Nat):Option aE:=(aa (⟨[0,0,0,0],0⟩:aE))
def lR(n:Nat)(a:Int):Option aE:=((xf n).bind λb=>aa (⟨b.aM,a⟩:aE))
def uz(n:Nat)(v:Int):Option aE:=((xf n).bind λa=>(aB a.aM v).bind λc=>(cd a.aM v 1).bind λb=>aa (⟨b,a.const⟩:aE))
def DT(n:Nat)(p:Prog)(b a:Int):Option (Prog×Bool):=((iL n p).bind λi=>(nN n i b a).bind λC=>bif !C then aa ((⟨[],[]⟩:Prog),al) else(aB i.parts b).bind λz=>(aB z.nest a).bind λD=>(wP n D).bind λk=>(y8 n i b).bind λA=>bz (λF ((B,l):Bool×Int)=>bif aj (l<A.length) then aS (fun((G,m):(List Int)×Bool)=>F (m,wr (l+1))) (λd=>(aB A l).bind λo=>(app [] o).bind λe=>(aB e a).bind λq=>(cd e a (wr (0-q))).bind λc=>bif B then(xv n c).bind λr=>d (c,r) else d (c,al)) else bif !B then aa ((⟨[],[]⟩:Prog),al) else(lR n (wr ((wr (k.1+k.2.1))-1))).bind λs=>(uz n a).bind λw=>(j3 n s 1 w (-1)).bind λx=>(tM n z a 1 a x).bind λy=>(jA n i b 1 [y]).bind λh=>aa (h.1,h.2)) n (k.2.2,0))
def xt(n:Nat)(x:Part)(a:Int)(b:aE):Option Part:=((uz n a).bind λw=>(j3 n w 1 b (-1)).bind λy=>(tM n x a 1 a y).bind λh=>bz (λz ((s,i):(List aE)×Int)=>(aB x.nest a).bind λe=>bif aj (i<e.bq.length) then(aB e.bq i).bind λA=>(j3 n A 1 b 1).bind λk=>(app s [k]).bind λl=>z (l,wr (i+1)) else bz (λm ((d,c):(List aE)×Int)=>bif aj (c<e.aL.length) then(aB e.aL c).bind λo=>(j3 n o 1 b 1).bind λp=>(app d [p]).bind λq=>m (q,wr (c+1)) else(aB h.nest a).bind λB=>(cd h.nest a (⟨s,d⟩:Loop)).bind λr=>aa (⟨r,h.body⟩:Part)) n ([],0)) n ([],0))
def Am(n:Nat)(p:Prog)(a b c:Int):Option (Prog×Bool):=((iL n p).bind λe=>aS (fun(l:Bool)=>bif l then aa ((⟨[],[]⟩:Prog),al) else(uz n b).bind λm=>(xf n).bind λo=>(j3 n m c o 0).bind λq=>(aB e.parts a).bind λh=>(xt n h (wr (b+1)) q).bind λi=>(jA n e a 1 [i]).bind λd=>aa (d.1,d.2)) λk=>(nN n e a b).bind λr=>bif !r then k ab else(nN n e a (wr (b+1))).bind λs=>bif !s then k ab else(rf n c 6).bind λw=>k (!w))
def EJ(n:Nat)(p:Prog)(a c b:Int):Option (Prog×Bool):=((iL n p).bind λd=>aS (fun(i:Bool)=>bif i then aa ((⟨[],[]⟩:Prog),al) else(aB d.parts a).bind λk=>(lR n b).bind λl=>(xt n k c l).bind λm=>(jA n d a 1 [m]).bind λe=>aa (e.1,e.2)) λh=>(nN n d a c).bind λo=>bif !o then h ab else(rf n b 6).bind λq=>h (!q))
def EH(n:Nat)(p:Prog)(c a b:Int):Option (Prog×Bool):=((iL n p).bind λk=>aS (fun(K:Bool)=>bif K then aa ((⟨[],[]⟩:Prog),al) else(aB k.parts c).bind λG=>(aB G.nest a).bind λL=>(wP n L).bind λe=>bif !e.2.2 then aa ((⟨[],[]⟩:Prog),al) else aS (fun(m:Int)=>(tM n G a 2 a (⟨[],0⟩:aE)).bind λd=>(uz n a).bind λo=>(lR n e.1).bind λq=>(j3 n o b q 1).bind λh=>(lR n e.1).bind λr=>(lR n e.2.1).bind λs=>(lR n b).bind λw=>(j3 n h 1 w 1).bind λx=>(sub d.nest 0 a).bind λy=>(app [] y).bind λz=>(xf n).bind λA=>(lR n m).bind λB=>(app z [(⟨[A],[B]⟩:Loop),(⟨[r,h],[s,x]⟩:Loop)]).bind λC=>(sub d.nest (wr (a+1)) (d.nest.length:Int)).bind λD=>(app C D).bind λF=>(jA n k c 1 [(⟨F,d.body⟩:Part)]).bind λi=>aa (i.1,i.2)) λH=>bif aj (e.1<e.2.1) then(wk b).bind λQ=>H (wr (Int.tdiv (wr ((wr ((wr (e.2.1-e.1))+b))-1)) b)) else H 0) λl=>(nN n k c a).bind λR=>bif !R then l ab else(aB k.parts c).bind λW=>bif aj ((4:Int)<=W.nest.length) then l ab else bif aj (b<1) then l ab else l (aj ((6:Int)<b)))
def zi(n:Nat)(a b:aE):Option Bool:=(aS (fun(d:Bool)=>aa d) λc=>bif aj (a.const=b.const) then(xA n a.aM b.aM).bind λe=>c e else c al)
def zf(n:Nat)(a:List aE)(b:List aE):Option Bool:=(bif !decide ((a.length:Int)=b.length) then aa al else bz (λd (c:Int)=>bif aj (c<a.length) then(aB a c).bind λe=>(aB b c).bind λh=>(zi n e h).bind λi=>bif !i then aa al else d (wr (c+1)) else aa ab) n 0)
def An(n:Nat)(a:List Loop)(b:List Loop):Option Bool:=(bif !decide ((a.length:Int)=b.length) then aa al else bz (λi (c:Int)=>bif aj (c<a.length) then aS (fun(k:Bool)=>bif k then aa al else i (wr (c+1))) (λd=>(aB a c).bind λe=>(aB b c).bind λh=>(zf n e.bq h.bq).bind λl=>bif !l then d ab else(zf n e.aL h.aL).bind λm=>d (!m)) else aa ab) n 0)
def tu(n:Nat)(p:Prog)(a:Int):Option (Prog×Bool):=((iL n p).bind λb=>aS (fun(A:Bool)=>bif A then aa ((⟨[],[]⟩:Prog),al) else(pv n b).bind λy=>(xc n b).bind λz=>bz (λo (c:Int)=>bif aj (c<z.length) then(aB z c).bind λe=>(aB y e.eQ).bind λh=>(aB y e.eR).bind λi=>aS (fun(q:Bool)=>bif q then aa ((⟨[],[]⟩:Prog),al) else o (wr (c+1))) (λd=>bif aj (h.part=a) then bif aj (i.part=wr (a+1)) then(Aa n i.db h.db).bind λr=>d r else d al else d al) else(aB b.parts a).bind λk=>(app [] k.body).bind λs=>(aB b.parts (wr (a+1))).bind λw=>(app s w.body).bind λx=>(jA n b a 2 [(⟨k.nest,x⟩:Part)]).bind λl=>aa (l.1,l.2)) n 0) λm=>(lM n b).bind λB=>bif !B then m ab else bif aj (a<0) then m ab else bif aj (wr ((b.parts.length:Int)-1)<=a) then m ab else(aB b.parts a).bind λC=>(aB b.parts (wr (a+1))).bind λD=>(An n C.nest D.nest).bind λF=>m (!F))
def sI(n:Nat)(p:Prog)(b a:Int):Option (Prog×Bool):=((iL n p).bind λe=>aS (fun(y:Bool)=>bif y then aa ((⟨[],[]⟩:Prog),al) else(pv n e).bind λw=>(xc n e).bind λx=>bz (λz (o:Int)=>bif aj (o<x.length) then(aB x o).bind λh=>(aB w h.eQ).bind λi=>(aB w h.eR).bind λk=>aS (fun(q:Bool)=>bif q then aa ((⟨[],[]⟩:Prog),al) else z (wr (o+1))) (λd=>bif aj (i.part=b) then bif aj (k.part=b) then bif aj (a<=i.stmt) then d (aj (k.stmt<a)) else d al else d al else d al) else(aB e.parts b).bind λc=>(sub c.body 0 a).bind λr=>(sub c.body a c.body.length).bind λs=>(jA n e b 1 [(⟨c.nest,r⟩:Part),(⟨c.nest,s⟩:Part)]).bind λl=>aa (l.1,l.2)) n 0) λm=>(lM n e).bind λA=>bif !A then m ab else bif aj (b<0) then m ab else bif aj ((e.parts.length:Int)<=b) then m ab else bif aj (a<1) then m ab else(aB e.parts b).bind λB=>m (aj ((B.body.length:Int)<=a)))
def EI(n:Nat)(p:Prog)(b a:Int):Option (Prog×Bool):=((iL n p).bind λh=>(nN n h b 0).bind λs=>bif !s then aa ((⟨[],[]⟩:Prog),al) else(aB h.parts b).bind λc=>(aB c.nest 0).bind λw=>(wP n w).bind λd=>aS (fun(x:Bool)=>bif x then aa ((⟨[],[]⟩:Prog),al) else(lR n d.1).bind λy=>(lR n a).bind λz=>(sub c.nest 1 c.nest.length).bind λi=>(app [(⟨[y],[z]⟩:Loop)] i).bind λk=>(lR n a).bind λl=>(lR n d.2.1).bind λm=>(sub c.nest 1 c.nest.length).bind λo=>(app [(⟨[l],[m]⟩:Loop)] o).bind λq=>(jA n h b 1 [(⟨k,c.body⟩:Part),(⟨q,c.body⟩:Part)]).bind λe=>aa (e.1,e.2)) λr=>bif !d.2.2 then r ab else bif aj (a<d.1) then r ab else r (aj (d.2.1<a)))
def wS(n:Nat)(a:List Int)(b:List Int):Option Bool:=(bz (λd (c:Int)=>bif aj (c<a.length) then(aB a c).bind λe=>(uy n b e).bind λh=>bif h then aa ab else d (wr (c+1)) else aa al) n 0)
def AO(n:Nat)(p:Prog):Option Int:=(bz (λc ((b,a):Int×Int)=>bif aj (a<p.a7.length) then(aB p.a7 a).bind λd=>(xw n d).bind λe=>c (wr (b+e),wr (a+1)) else aa b) n (0,0))
def tB(n:Nat)(p:Prog)(d:Int)(a:Bool):Option (List Int):=((AO n p).bind λA=>(mk A al).bind λB=>(pv n p).bind λy=>(xb n p).bind λz=>bz (λC ((e,h):(List Bool)×Int)=>bif aj (h<y.length) then aS (fun(m:(List Bool))=>C (m,wr (h+1))) (λo=>(aB y h).bind λq=>bif !decide (q.part=d) then o e else bif a then(aB z h).bind λi=>(aB e i.write).bind λD=>(cd e i.write ab).bind λr=>o r else bz (λs ((b,c):(List Bool)×Int)=>(aB z h).bind λk=>bif aj (c<k.reads.length) then(aB k.reads c).bind λl=>(aB b l).bind λF=>(cd b l ab).bind λw=>s (w,wr (c+1)) else o b) n (e,0)) else(wv n e).bind λx=>aa x) n (B,0))
def Dx(n:Nat)(p:Prog)(a b:Int):Option Bool:=(aS (fun(m:Bool)=>bif m then aa al else(tB n p a ab).bind λk=>(tB n p b ab).bind λl=>aS (fun(d:Bool)=>aa d) λe=>(wS n k l).bind λo=>bif !o then(tB n p b al).bind λq=>(wS n k q).bind λr=>bif !r then(tB n p a al).bind λh=>(wS n l h).bind λi=>e (!i) else e al else e al) λc=>(lM n p).bind λs=>bif !s then c ab else bif aj (a<0) then c ab else bif aj (b<0) then c ab else bif aj ((p.parts.length:Int)<=a) then c ab else bif aj ((p.parts.length:Int)<=b) then c ab else c (aj (a=b)))
def tt(n:Nat)(p:Prog)(a:Int):Option (Prog×Bool):=((iL n p).bind λb=>(Dx n b a (wr (a+1))).bind λd=>bif !d then aa ((⟨[],[]⟩:Prog),al) else(aB b.parts (wr (a+1))).bind λe=>(aB b.parts a).bind λh=>(jA n b a 2 [e,h]).bind λc=>aa (c.1,c.2))
def wx(n:Nat)(p:Prog)(s:Step):Option (Prog×Bool):=((iL n p).bind λc=>(Ak n s).bind λx=>bif !x then aa ((⟨[],[]⟩:Prog),al) else bif aj (s.kind=1) then(DU n c s.part s.a).bind λk=>aa (k.1,k.2) else bif aj (s.kind=2) then(DT n c s.part s.a).bind λl=>aa (l.1,l.2) else bif aj (s.kind=3) then(Am n c s.part s.a s.b).bind λm=>aa (m.1,m.2) else bif aj (s.kind=4) then(EJ n c s.part s.a s.b).bind λo=>aa (o.1,o.2) else bif aj (s.kind=5) then(EH n c s.part s.a s.b).bind λq=>aa (q.1,q.2) else bif aj (s.kind=6) then(tu n c s.part).bind λr=>aa (r.1,r.2) else bif aj (s.kind=7) then(sI n c s.part s.a).bind λw=>aa (w.1,w.2) else bif aj (s.kind=8) then(EI n c s.part s.a).bind λd=>aa (d.1,d.2) else bif aj (s.kind=9) then(tt n c s.part).bind λe=>aa (e.1,e.2) else bif aj (s.kind=10) then(tC n c s.part).bind λh=>aa (h.1,h.2) else(DV n c).bind λi=>aa (i.1,i.2))
def xo(n:Nat)(a:List Int):Option (List Int):=((mk a.length 0).bind λd=>bz (λe ((c,b):(List Int)×Int)=>bif aj (b<a.length) then(aB a b).bind λh=>(aB c b).bind λk=>(cd c b h).bind λi=>e (i,wr (b+1)) else aa c) n (d,0))
def AJ(n:Nat)(a:cz):Option cz:=((xo n a.b9).bind λb=>aa (⟨a.name,b⟩:cz))
def FD(n:Nat)(a:List cz):Option (List cz):=((mk a.length (⟨[],[]⟩:cz)).bind λd=>bz (λe ((c,b):(List cz)×Int)=>bif aj (b<a.length) then(aB a b).bind λh=>(AJ n h).bind λi=>(aB c b).bind λl=>(cd c b i).bind λk=>e (k,wr (b+1)) else aa c) n (d,0))
def zG(n:Nat)(a:aE):Option aE:=((xo n a.aM).bind λb=>aa (⟨b,a.const⟩:aE))
def zt(n:Nat)(a:List aE):Option (List aE):=((mk a.length (⟨[],0⟩:aE)).bind λd=>bz (λe ((c,b):(List aE)×Int)=>bif aj (b<a.length) then(aB a b).bind λh=>(zG n h).bind λi=>(aB c b).bind λl=>(cd c b i).bind λk=>e (k,wr (b+1)) else aa c) n (d,0))
def Bt(n:Nat)(a:Loop):Option Loop:=((zt n a.bq).bind λb=>(zt n a.aL).bind λc=>aa (⟨b,c⟩:Loop))
def F6(n:Nat)(a:List Loop):Option (List Loop):=((mk a.length (⟨[],[]⟩:Loop)).bind λd=>bz (λe ((c,b):(List Loop)×Int)=>bif aj (b<a.length) then(aB a b).bind λh=>(Bt n h).bind λi=>(aB c b).bind λl=>(cd c b i).bind λk=>e (k,wr (b+1)) else aa c) n (d,0))
def zH(n:Nat)(a:cx):Option cx:=((zt n a.ba).bind λb=>aa (⟨a.array,b⟩:cx))
def F7(n:Nat)(self:Expr->Option Expr)(a:List Expr):Option (List Expr):=((mk a.length (⟨0,0,(⟨[],0⟩:aE),(⟨[],[]⟩:cx),[]⟩:Expr)).bind λd=>bz (λe ((c,b):(List Expr)×Int)=>bif aj (b<a.length) then(aB a b).bind λh=>(self h).bind λi=>(aB c b).bind λl=>(cd c b i).bind λk=>e (k,wr (b+1)) else aa c) n (d,0))
def p':Nat->Expr->Option Expr
 |0,_=>ak
 |n+1,a=>((zG n a.index).bind λb=>(zH n a.read).bind λc=>(F7 n (p' n) a.aZ).bind λd=>aa (⟨a.kind,a.num,b,c,d⟩:Expr))
def BJ(n:Nat)(a:Stmt):Option Stmt:=((zH n a.write).bind λb=>(p' n a.value).bind λc=>aa (⟨b,c⟩:Stmt))
def F4(n:Nat)(a:List Stmt):Option (List Stmt):=((mk a.length (⟨(⟨[],[]⟩:cx),(⟨0,0,(⟨[],0⟩:aE),(⟨[],[]⟩:cx),[]⟩:Expr)⟩:Stmt)).bind λd=>bz (λe ((c,b):(List Stmt)×Int)=>bif aj (b<a.length) then(aB a b).bind λh=>(BJ n h).bind λi=>(aB c b).bind λl=>(cd c b i).bind λk=>e (k,wr (b+1)) else aa c) n (d,0))
def BK(n:Nat)(a:Part):Option Part:=((F6 n a.nest).bind λb=>(F4 n a.body).bind λc=>aa (⟨b,c⟩:Part))
def F5(n:Nat)(a:List Part):Option (List Part):=((mk a.length (⟨[],[]⟩:Part)).bind λd=>bz (λe ((c,b):(List Part)×Int)=>bif aj (b<a.length) then(aB a b).bind λh=>(BK n h).bind λi=>(aB c b).bind λl=>(cd c b i).bind λk=>e (k,wr (b+1)) else aa c) n (d,0))
def tn(n:Nat)(a:Prog):Option Prog:=((FD n a.a7).bind λb=>(F5 n a.parts).bind λc=>aa (⟨b,c⟩:Prog))
def NR(n:Nat)(a:Step):Option Step:=(aa a)
def Fl(n:Nat)(s:Step):Option (List Int):=(aa [s.part,s.a,s.b])
def Fk(n:Nat)(v:Int):Option Bool:=(aa (!decide (v=0)))
def BX(n:Nat)(a:Int):Option Int:=(aS (fun(e:Bool)=>bif e then aa 2 else aS (fun(h:Bool)=>bif h then aa 3 else aS (fun(i:Bool)=>bif i then aa 1 else bif aj (a=11) then aa 0 else aa (-1)) λc=>bif aj (a=6) then c (aj (a=6)) else bif aj (a=9) then c (aj (a=9)) else c (aj (a=10))) λd=>bif aj (a=3) then d (aj (a=3)) else bif aj (a=4) then d (aj (a=4)) else d (aj (a=5))) λb=>bif aj (a=1) then b (aj (a=1)) else bif aj (a=2) then b (aj (a=2)) else bif aj (a=7) then b (aj (a=7)) else b (aj (a=8)))
def yY(n:Nat)(s:List Int)(f:Int->Option Bool):Option Int:=(bz (λb (a:Int)=>bif aj (a<s.length) then(aB s a).bind λc=>(f c).bind λd=>bif d then aa a else b (wr (a+1)) else aa (-1)) n 0)
def oz(n:Nat)(s:List Int)(f:Int->Option Bool):Option Bool:=((yY n s f).bind λa=>aa (aj ((0:Int)<=a)))
def A4(n:Nat)(s:Step):Option Bool:=((BX n s.kind).bind λa=>aS (fun(d:Bool)=>aa d) λb=>bif aj ((0:Int)<=a) then(Fl n s).bind λc=>(sub c a c.length).bind λe=>(oz n e λh=>Fk n h).bind λi=>b (!i) else b al)
def fz(n:Nat)(a low high:Int):Option Bool:=(aS (fun(c:Bool)=>aa c) λb=>bif aj (low<=a) then b (aj (a<=high)) else b al)
def q1(n:Nat)(a:Int):Option Bool:=((fz n a 1 6).bind λb=>aa (!b))
def Ad(n:Nat)(s:List UInt8):Option Bool:=(aS (fun(b:Bool)=>aa b) λa=>bif aj ((s.length:Int)=1) then(y5 [65,66,67,68] s).bind λc=>a c else a al)
def Ax(n:Nat)(a:List cz):Option Bool:=(bz (λk (d:Int)=>bif aj (d<a.length) then(aB a d).bind λb=>aS (fun(e:Bool)=>bif e then aa al else k (wr (d+1))) (λc=>(Ad n b.name).bind λl=>bif !l then c ab else bif aj ((0:Int)<d) then(aB a (wr (d-1))).bind λm=>bif !Op.bytesLess m.name b.name then c ab else(fz n b.b9.length 1 2).bind λo=>bif !o then c ab else(oz n b.b9 λh=>q1 n h).bind λi=>c i else(fz n b.b9.length 1 2).bind λp=>bif !p then c ab else(oz n b.b9 λh=>q1 n h).bind λq=>c q) else aa (aj ((a.length:Int)<=4))) n 0)
def Dy(n:Nat)(s:List aE)(f:aE->Option Bool):Option Int:=(bz (λb (a:Int)=>bif aj (a<s.length) then(aB s a).bind λc=>(f c).bind λd=>bif d then aa a else b (wr (a+1)) else aa (-1)) n 0)
def ps(n:Nat)(s:List aE)(f:aE->Option Bool):Option Bool:=((Dy n s f).bind λa=>aa (aj ((0:Int)<=a)))
def yZ(n:Nat)(c:Int):Option Bool:=((fz n c (-9) 9).bind λa=>aa (!a))
def Gh(n:Nat)(a:Int):Option Bool:=((fz n a (-99) 99).bind λb=>aa b)
def v'(n:Nat)(a:aE):Option Bool:=(aS (fun(c:Bool)=>aa c) λb=>bif aj ((a.aM.length:Int)=4) then(Gh n a.const).bind λd=>bif d then(oz n a.aM λe=>yZ n e).bind λh=>b (!h) else b al else b al)
def f7(n:Nat)(a:aE):Option Int:=(bz (λd (b:Int)=>aS (fun(e:Bool)=>bif e then d (wr (b-1)) else aa b) λc=>bif aj ((0:Int)<b) then(aB a.aM (wr (b-1))).bind λh=>c (aj (h=0)) else c al) n a.aM.length)
def wc(n:Nat)(a:aE)(b:Int):Option Bool:=(aS (fun(d:Bool)=>aa d) λc=>(v' n a).bind λe=>bif !e then c ab else(f7 n a).bind λh=>c (aj (b<h)))
def zR(n:Nat)(a:List aE)(b:Int):Option Bool:=(aS (fun(d:Bool)=>aa d) λc=>(fz n a.length 1 2).bind λe=>bif e then(ps n a λh=>wc n h b).bind λi=>c (!i) else c al)
def EB(n:Nat)(a:List Loop):Option Bool:=(bz (λe (b:Int)=>bif aj (b<a.length) then(aB a b).bind λc=>aS (fun(h:Bool)=>bif h then aa al else e (wr (b+1))) (λd=>(zR n c.bq b).bind λi=>bif !i then d ab else(zR n c.aL b).bind λk=>d (!k)) else aa (aj ((a.length:Int)<=4))) n 0)
def oB(n:Nat)(a:aE)(b:List Int):Option Int:=(bz (λe ((d,c):Int×Int)=>bif aj (c<b.length) then(aB b c).bind λh=>(aB a.aM c).bind λi=>e (wr (d+(wr (i*h))),wr (c+1)) else aa d) n (a.const,0))
def EX(n:Nat)(l:Loop)(a:List Int):Option (Int×Int):=((aB l.bq 0).bind λm=>(oB n m a).bind λo=>(aB l.aL 0).bind λp=>(oB n p a).bind λq=>bz (λr ((k,d):Int×Int)=>bif aj (d<l.bq.length) then(aB l.bq d).bind λs=>(oB n s a).bind λw=>r (max k w,wr (d+1)) else bz (λe ((c,b):Int×Int)=>bif aj (b<l.aL.length) then(aB l.aL b).bind λh=>(oB n h a).bind λi=>e (min c i,wr (b+1)) else aa (k,c)) n (q,0)) n (o,0))
def q5:Nat->nm->(List Int)->Option (Bool×nm)
 |0,_,_=>ak
 |n+1,a,b=>(bif aj ((b.length:Int)=a.nest.length) then(jH b).bind λy=>(app a.out [y]).bind λw=>aa (aj ((w.length:Int)<=120),(⟨a.nest,a.steps,w⟩:nm)) else(aB a.nest b.length).bind λz=>(EX n z b).bind λx=>bz (λl ((m,k,o,p):(List Loop)×Int×(List (List Int))×Int)=>bif aj (p<x.2) then aS (fun((d,e,h,q):(List Loop)×Int×(List (List Int))×Bool)=>bif q then aa (al,(⟨d,e,h⟩:nm)) else l (d,e,h,wr (p+1))) (λi=>bif aj ((1200:Int)<wr ((wr (k+1))+1)) then i (m,wr (k+1),o,ab) else(jH b).bind λr=>(app r [p]).bind λs=>(q5 n (⟨m,wr (k+1),o⟩:nm) s).bind λc=>i (c.2.nest,c.2.steps,c.2.out, !c.1)) else aa (ab,(⟨m,k,o⟩:nm))) n (a.nest,a.steps,a.out,x.1))
def Eh(n:Nat)(a:List Loop):Option ((List (List Int))×Bool):=((EB n a).bind λc=>bif !c then aa ([],al) else(q5 n (⟨a,0,[]⟩:nm) []).bind λb=>bif !b.1 then aa ([],al) else aa (b.2.out,ab))
def Kl(n:Nat)(s:List Stmt)(f:Stmt->Option Bool):Option Int:=(bz (λb (a:Int)=>bif aj (a<s.length) then(aB s a).bind λc=>(f c).bind λd=>bif d then aa a else b (wr (a+1)) else aa (-1)) n 0)
def Dv(n:Nat)(s:List Stmt)(f:Stmt->Option Bool):Option Bool:=((Kl n s f).bind λa=>aa (aj ((0:Int)<=a)))
def zj(n:Nat)(s:aE)(a:Int):Option Bool:=(aS (fun(c:Bool)=>aa c) λb=>(v' n s).bind λd=>bif !d then b ab else(f7 n s).bind λe=>b (aj (a<e)))
def zS(n:Nat)(a:cx)(b:Int):Option Bool:=(aS (fun(d:Bool)=>aa d) λc=>(Ad n a.array).bind λe=>bif e then(fz n a.ba.length 1 2).bind λh=>bif h then(ps n a.ba λi=>zj n i b).bind λk=>c (!k) else c al else c al)
def zQ(n:Nat)(a:aE):Option Bool:=(aS (fun(c:Bool)=>aa c) λb=>bif aj ((a.aM.length:Int)=0) then b (aj (a.const=0)) else b al)
def tE(n:Nat)(a:cx):Option Bool:=(aS (fun(c:Bool)=>aa c) λb=>bif aj (a.array=[]) then b (aj ((a.ba.length:Int)=0)) else b al)
def se(n:Nat)(a:Int):Option Bool:=((fz n a 4 6).bind λb=>aa b)
def pH:Nat->Expr->Int->Int->Int->Option (Bool×Int)
 |0,_,_,_,_=>ak
 |n+1,e,a,b,count=>(aS (fun(K:Bool)=>bif K then aa (al,wr (count+1)) else aS (fun(p:Bool)=>bif p then aa (al,wr (count+1)) else bif aj (e.kind=1) then aS (fun(q:Bool)=>aa (q,wr (count+1))) (λi=>(fz n e.num 0 99).bind λr=>bif r then i (aj ((e.aZ.length:Int)=0)) else i al) else bif aj (e.kind=2) then aS (fun(s:Bool)=>aa (s,wr (count+1))) (λd=>(v' n e.index).bind λw=>bif w then(f7 n e.index).bind λx=>bif aj (x<=a) then d (aj ((e.aZ.length:Int)=0)) else d al else d al) else bif aj (e.kind=3) then aS (fun(y:Bool)=>aa (y,wr (count+1))) (λk=>(zS n e.read a).bind λz=>bif z then k (aj ((e.aZ.length:Int)=0)) else k al) else aS (fun(A:Bool)=>bif A then aa (al,wr (count+1)) else aS (fun((B,C):Int×Bool)=>aa (C,B)) λl=>(aB e.aZ 0).bind λD=>(pH n D a (wr (b+1)) (wr (count+1))).bind λh=>bif h.1 then(aB e.aZ 1).bind λF=>(pH n F a (wr (b+1)) h.2).bind λm=>l (m.2,m.1) else l (h.2,al)) λo=>(se n e.kind).bind λG=>bif !G then o ab else o (!decide ((e.aZ.length:Int)=2))) λc=>bif !decide (e.kind=1) then bif !decide (e.num=0) then c ab else bif !decide (e.kind=2) then(zQ n e.index).bind λL=>bif !L then c ab else bif !decide (e.kind=3) then(tE n e.read).bind λQ=>c (!Q) else c al else bif !decide (e.kind=3) then(tE n e.read).bind λR=>c (!R) else c al else bif !decide (e.kind=2) then(zQ n e.index).bind λW=>bif !W then c ab else bif !decide (e.kind=3) then(tE n e.read).bind λX=>c (!X) else c al else bif !decide (e.kind=3) then(tE n e.read).bind λf=>c (!f) else c al) λH=>bif aj ((12:Int)<wr (count+1)) then H ab else H (aj ((5:Int)<b)))
def Ey(n:Nat)(s:Stmt)(a:Int):Option Bool:=(aS (fun((i,d):Int×Bool)=>aa d) λb=>(fz n a 0 4).bind λe=>bif e then(zS n s.write a).bind λh=>bif h then(pH n s.value a 1 0).bind λc=>b (c.2,c.1) else b (0,al) else b (0,al))
def yv(n:Nat)(s:Stmt)(a:Part):Option Bool:=((Ey n s a.nest.length).bind λb=>aa (!b))
def zs(n:Nat)(a:Int):Option Bool:=((fz n a (-9999) 9999).bind λb=>aa (!b))
def A5(n:Nat)(a:List Int):Option Bool:=(aS (fun(c:Bool)=>aa c) λb=>bif aj ((a.length:Int)<=4) then(oz n a λd=>zs n d).bind λe=>b (!e) else b al)
def q4:Nat->Expr->Option (List cx)
 |0,_=>ak
 |n+1,e=>(bif aj (e.kind=3) then aa [e.read] else bz (λc ((b,a):(List cx)×Int)=>bif aj (a<e.aZ.length) then(aB e.aZ a).bind λd=>(q4 n d).bind λh=>(app b h).bind λi=>c (i,wr (a+1)) else aa b) n ([],0))
def Ej(n:Nat)(a:cz):Option Int:=(bz (λd ((c,b):Int×Int)=>bif aj (b<a.b9.length) then(aB a.b9 b).bind λe=>d (wr (c*e),wr (b+1)) else aa c) n (1,0))
def tb(n:Nat)(p:Prog)(a:cx)(b:List Int):Option Int:=(bz (λo ((l,i):Int×Int)=>bif aj (i<p.a7.length) then(aB p.a7 i).bind λe=>bif !decide (e.name=a.array) then(Ej n e).bind λq=>o (wr (l+q),wr (i+1)) else bif !decide ((a.ba.length:Int)=e.b9.length) then aa (-1) else bz (λr ((m,h):Int×Int)=>bif aj (h<a.ba.length) then(aB a.ba h).bind λs=>(oB n s b).bind λc=>(aB e.b9 h).bind λd=>(fz n c 0 (wr (d-1))).bind λk=>bif !k then aa (-1) else r (wr ((wr (m*d))+c),wr (h+1)) else aa (wr (l+m))) n (0,0) else aa (-1)) n (0,0))
def yR(n:Nat)(a:cx)(b:Prog)(c:List Int):Option Bool:=((tb n b a c).bind λd=>aa (aj (d<0)))
def Kf(n:Nat)(s:List cx)(f:cx->Option Bool):Option Int:=(bz (λb (a:Int)=>bif aj (a<s.length) then(aB s a).bind λc=>(f c).bind λd=>bif d then aa a else b (wr (a+1)) else aa (-1)) n 0)
def Dr(n:Nat)(s:List cx)(f:cx->Option Bool):Option Bool:=((Kf n s f).bind λa=>aa (aj ((0:Int)<=a)))
def DE(n:Nat)(p:Prog)(s:Stmt)(a:List Int):Option Bool:=(aS (fun(c:Bool)=>aa c) λb=>(tb n p s.write a).bind λd=>bif aj ((0:Int)<=d) then(q4 n s.value).bind λe=>(Dr n e λh=>yR n h p a).bind λi=>b (!i) else b al)
def vl(n:Nat)(p:Prog):Option ((List cN)×Bool):=(aS (fun(D:Bool)=>bif D then aa ([],al) else bz (λF ((l,k):(List cN)×Int)=>bif aj (k<p.parts.length) then(aB p.parts k).bind λe=>(Eh n e.nest).bind λm=>aS (fun(o:Bool)=>bif o then aa ([],al) else bz (λq ((h,b):(List cN)×Int)=>bif aj (b<m.1.length) then(aB m.1 b).bind λc=>(A5 n c).bind λr=>bif !r then aa ([],al) else bz (λs ((i,a):(List cN)×Int)=>bif aj (a<e.body.length) then(aB e.body a).bind λw=>(DE n p w c).bind λx=>bif !x then aa ([],al) else(jH c).bind λy=>(app i [(⟨k,a,y⟩:cN)]).bind λz=>s (z,wr (a+1)) else q (i,wr (b+1))) n (h,0) else F (h,wr (k+1))) n (l,0)) (λd=>bif !m.2 then d ab else(fz n e.body.length 1 4).bind λA=>bif !A then d ab else(Dv n e.body λG=>yv n G e).bind λB=>d B) else aa (l,aj ((l.length:Int)<=120))) n ([],0)) λC=>(Ax n p.a7).bind λH=>bif !H then C ab else C (aj ((4:Int)<p.parts.length)))
def tc(n:Nat)(p:Prog):Option Bool:=((vl n p).bind λa=>aa a.2)
def k7(n:Nat)(a:aE):Option aE:=((jH a.aM).bind λb=>aa (⟨b,a.const⟩:aE))
def q8(n:Nat)(a:cx)(change:aE->Option aE):Option cx:=(bz (λd ((c,b):(List aE)×Int)=>bif aj (b<a.ba.length) then(aB a.ba b).bind λe=>(change e).bind λh=>(app c [h]).bind λi=>d (i,wr (b+1)) else aa (⟨a.array,c⟩:cx)) n ([],0))
def kb:Nat->Expr->(aE->Option aE)->Option Expr
 |0,_,_=>ak
 |n+1,e,change=>(aS (fun((o,p,q,r):(List Int)×Int×(List UInt8)×(List aE))=>bz (λa ((k,b):(List Expr)×Int)=>bif aj (b<e.aZ.length) then(aB e.aZ b).bind λc=>(kb n c change).bind λd=>(app k [d]).bind λh=>a (h,wr (b+1)) else aa (⟨e.kind,e.num,(⟨o,p⟩:aE),(⟨q,r⟩:cx),k⟩:Expr)) n ([],0)) λi=>bif aj (e.kind=2) then(change e.index).bind λl=>i (l.aM,l.const,[],[]) else bif aj (e.kind=3) then(q8 n e.read change).bind λm=>i ([],0,m.array,m.ba) else i ([],0,[],[]))
def oS(n:Nat)(s:Stmt)(change:aE->Option aE):Option Stmt:=((q8 n s.write change).bind λa=>(kb n s.value change).bind λb=>aa (⟨a,b⟩:Stmt))
def wU(n:Nat)(s:Stmt):Option Stmt:=((oS n s λa=>k7 n a).bind λb=>aa b)
def px(n:Nat)(a:List aE):Option (List aE):=(bz (λd ((c,b):(List aE)×Int)=>bif aj (b<a.length) then(aB a b).bind λe=>(k7 n e).bind λh=>(app c [h]).bind λi=>d (i,wr (b+1)) else aa c) n ([],0))
def rl(n:Nat)(a:List Loop):Option (List Loop):=(bz (λe ((c,b):(List Loop)×Int)=>bif aj (b<a.length) then(aB a b).bind λd=>(px n d.bq).bind λh=>(px n d.aL).bind λi=>(app c [(⟨h,i⟩:Loop)]).bind λk=>e (k,wr (b+1)) else aa c) n ([],0))
def rk(n:Nat)(p:Part):Option Part:=((rl n p.nest).bind λc=>bz (λd ((b,a):(List Stmt)×Int)=>bif aj (a<p.body.length) then(aB p.body a).bind λe=>(wU n e).bind λh=>(app b [h]).bind λi=>d (i,wr (a+1)) else aa (⟨c,b⟩:Part)) n ([],0))
def oA(n:Nat)(p:Prog):Option Prog:=(bz (λm ((i,a):(List cz)×Int)=>bif aj (a<p.a7.length) then(aB p.a7 a).bind λk=>(jH k.b9).bind λo=>(app i [(⟨k.name,o⟩:cz)]).bind λq=>m (q,wr (a+1)) else bz (λb ((l,c):(List Part)×Int)=>bif aj (c<p.parts.length) then(aB p.parts c).bind λd=>(rk n d).bind λe=>(app l [e]).bind λh=>b (h,wr (c+1)) else aa (⟨i,l⟩:Prog)) n ([],0)) n ([],0))
def lP(n:Nat)(p:Prog):Option (Prog×Bool):=((tc n p).bind λa=>bif !a then aa ((⟨[],[]⟩:Prog),al) else(oA n p).bind λb=>aa (b,ab))
def k6(n:Nat)(p:Prog)(a:Int):Option Bool:=((fz n a 0 (wr ((p.parts.length:Int)-1))).bind λb=>aa b)
def Ki(n:Nat)(p:Prog)(a b:Int):Option Bool:=(aS (fun(d:Bool)=>aa d) λc=>(k6 n p a).bind λe=>bif e then(aB p.parts a).bind λh=>(fz n b 0 (wr ((h.nest.length:Int)-1))).bind λi=>c i else c al)
def jl(n:Nat)(p:Prog)(a b:Int):Option (Prog×Bool):=(aS (fun(e:Bool)=>bif e then aa ((⟨[],[]⟩:Prog),al) else(oA n p).bind λd=>(aB d.parts a).bind λl=>aa (d,ab)) λc=>(tc n p).bind λh=>bif !h then c ab else(k6 n p a).bind λi=>bif !i then c ab else bif !decide (b=(-1)) then(Ki n p a b).bind λk=>c (!k) else c al)
def qS(n:Nat)(a:aE)(b:Int):Option Bool:=((aB a.aM b).bind λc=>aa (!decide (c=0)))
def EC(n:Nat)(l:Loop)(v:Int):Option Bool:=(aS (fun(c:Bool)=>aa c) λb=>(ps n l.bq λa=>qS n a v).bind λd=>bif d then b ab else(ps n l.aL λa=>qS n a v).bind λe=>b e)
def DO(n:Nat)(p:Prog)(x:cN):Option Stmt:=((aB p.parts x.part).bind λa=>(aB a.body x.stmt).bind λb=>aa b)
def DA(n:Nat)(p:Prog)(x:cN):Option ((List Int)×Int):=((DO n p x).bind λc=>(q4 n c.value).bind λd=>bz (λh ((e,a):(List Int)×Int)=>bif aj (a<d.length) then(aB d a).bind λi=>(tb n p i x.db).bind λk=>(app e [k]).bind λl=>h (l,wr (a+1)) else(tb n p c.write x.db).bind λb=>aa (e,b)) n ([],0))
def pX(n:Nat)(p:Prog):Option ((Option og)×Bool):=((vl n p).bind λa=>bif !a.2 then aa (ak,al) else bz (λk ((e,h,b):(List (List Int))×(List Int)×Int)=>bif aj (b<a.1.length) then(aB a.1 b).bind λl=>(DA n p l).bind λi=>(app e [i.1]).bind λc=>(app h [i.2]).bind λd=>k (c,d,wr (b+1)) else aa (aa (⟨p,a.1,e,h⟩:og),ab)) n ([],[],0))
def EP(n:Nat)(b:List Int)(c:List Int):Option Bool:=(bif !decide ((b.length:Int)=c.length) then aa al else bz (λd (a:Int)=>bif aj (a<b.length) then(aB b a).bind λe=>(aB c a).bind λh=>bif !decide (e=h) then aa al else d (wr (a+1)) else aa ab) n 0)
def Fi(n:Nat)(s:List Int)(v:Int):Option Int:=(bz (λb (a:Int)=>bif aj (a<s.length) then(aB s a).bind λc=>bif aj (v=c) then aa a else b (wr (a+1)) else aa (-1)) n 0)
def vV(n:Nat)(s:List Int)(v:Int):Option Bool:=((Fi n s v).bind λa=>aa (aj ((0:Int)<=a)))
def DD(n:Nat)(t:og)(a b:Int):Option Int:=(aS (fun(k:Int)=>aS (fun(c:Int)=>aS (fun(e:Int)=>aa e) λd=>(aB t.iX a).bind λh=>(aB t.iX b).bind λi=>bif aj (h=i) then d (wr (c+4)) else d c) λl=>(aB t.reads a).bind λo=>(aB t.iX b).bind λp=>(vV n o p).bind λq=>bif q then l (wr (k+2)) else l k) λm=>(aB t.reads b).bind λr=>(aB t.iX a).bind λs=>(vV n r s).bind λw=>bif w then m (wr (0+1)) else m 0)
def vZ(n:Nat)(t:og):Option (List fY):=(bz (λl ((i,a):(List fY)×Int)=>bif aj (a<t.list.length) then bz (λm ((d,c):(List fY)×Int)=>bif aj (c<t.list.length) then aS (fun(e:(List fY))=>m (e,wr (c+1))) (λk=>(DD n t a c).bind λb=>bif aj ((0:Int)<b) then(app d [(⟨a,c,b⟩:fY)]).bind λh=>k h else k d) else l (d,wr (a+1))) n (i,wr (a+1)) else aa i) n ([],0))
def DG(n:Nat)(x:Int):Option Bool:=(aa (!decide (x=x)))
def DB(n:Nat)(x y:Int):Option Int:=((DG n x).bind λb=>(DG n y).bind λa=>bif b then bif a then aa 0 else aa (-1) else bif a then aa 1 else bif aj (x<y) then aa (-1) else bif aj (y<x) then aa 1 else aa 0)
def KH(n:Nat)(b:List Int)(c:List Int):Option Int:=(bz (λe (a:Int)=>bif aj (a<b.length) then(aB b a).bind λh=>bif aj ((c.length:Int)<=a) then aa 1 else(aB c a).bind λi=>(DB n h i).bind λd=>bif !decide (d=0) then aa d else e (wr (a+1)) else bif aj ((b.length:Int)<c.length) then aa (-1) else aa 0) n 0)
def Kz(n:Nat)(a:Int):Option Bool:=(aa (!decide (a=0)))
def Ei(n:Nat)(d:List Int):Option Int:=((yY n d λa=>Kz n a).bind λb=>aa b)
def Ds(n:Nat)(t:og)(c:Int):Option (List (List Int)):=((vZ n t).bind λy=>bz (λA ((k,l):(List (List Int))×Int)=>bif aj (l<y.length) then aS (fun((m,B,C,D,F,G,H,K,L,Q):(List (List Int))×Int×Int×Int×Int×Int×(List Int)×Int×Int×(List Int))=>A (m,wr (l+1))) (λz=>(aB y l).bind λd=>(aB t.list d.eQ).bind λe=>(aB t.list d.eR).bind λa=>aS (fun(o:Bool)=>bif o then z (k,d.eQ,d.eR,d.kinds,e.part,e.stmt,e.db,a.part,a.stmt,a.db) else bz (λp ((h,b):(List Int)×Int)=>bif aj (b<a.db.length) then(aB a.db b).bind λq=>(aB e.db b).bind λr=>(app h [wr (q-r)]).bind λs=>p (s,wr (b+1)) else(app k [h]).bind λw=>z (w,d.eQ,d.eR,d.kinds,e.part,e.stmt,e.db,a.part,a.stmt,a.db)) n ([],0)) λi=>bif !decide (e.part=c) then i ab else i (!decide (a.part=c))) else(mQ k).bind λx=>aa (gC x)) n ([],0))
def D0(n:Nat)(p:Prog)(a:Int):Option (List (List Int)):=((pX n p).bind λb=>bif b.1.isSome then aS (fun(e:Bool)=>bif e then aa [] else(Ds n (b.1.getD default) a).bind λh=>aa h) (λc=>bif !b.2 then c ab else(k6 n p a).bind λi=>c (!i)) else aS (fun(k:Bool)=>bif k then aa [] else ak) λd=>bif !b.2 then d ab else(k6 n p a).bind λl=>d (!l))
def xV(n:Nat)(p:Prog)(c:Int)(f:List Int->Option (List Int)):Option Bool:=((D0 n p c).bind λh=>bz (λl ((b,i):(List (List Int))×Int)=>bif aj (i<h.length) then(aB b i).bind λd=>(f d).bind λe=>(fe d e).bind λm=>(Ei n e).bind λk=>(cd b i e).bind λa=>bif aj ((0:Int)<=k) then(aB e k).bind λy=>bif aj (y<0) then aa al else l (a,wr (i+1)) else l (a,wr (i+1)) else aa ab) n (h,0))
def vN(n:Nat)(d:List Int)(a:Int):Option (List Int):=((aB d (wr (a+1))).bind λc=>(aB d a).bind λe=>(cd d a c).bind λb=>(aB b (wr (a+1))).bind λi=>(cd b (wr (a+1)) e).bind λh=>aa h)
def tf(n:Nat)(l:Loop)(f:aE->Option aE):Option Loop:=(bz (λe ((x,i):Loop×Int)=>(fe l.bq x.bq).bind λh=>(fe l.aL x.aL).bind λm=>bif aj (i<2) then bif aj (i=0) then bz (λa ((y,k):(List aE)×Int)=>bif aj (k<x.bq.length) then(aB y k).bind λb=>(f b).bind λc=>(cd y k c).bind λd=>a (d,wr (k+1)) else e ((⟨y,x.aL⟩:Loop),wr (0+1))) n (x.bq,0) else bif aj (i=1) then bz (λa ((y,k):(List aE)×Int)=>bif aj (k<x.aL.length) then(aB y k).bind λb=>(f b).bind λc=>(cd y k c).bind λd=>a (d,wr (k+1)) else e ((⟨x.bq,y⟩:Loop),wr (1+1))) n (x.aL,0) else ak else aa x) n (l,0))
def pw(n:Nat)(p:Part)(a:Int)(f:aE->Option aE):Option Part:=(bz (λb ((x,k):(List Loop)×Int)=>(fe p.nest x).bind λo=>bif aj (k<x.length) then(aB x k).bind λc=>(tf n c f).bind λd=>(cd x k d).bind λe=>b (e,wr (k+1)) else bz (λh ((y,j):(List Stmt)×Int)=>(fe p.body y).bind λq=>bif aj (j<p.body.length) then(aB y j).bind λi=>(oS n i f).bind λl=>(cd y j l).bind λm=>h (m,wr (j+1)) else aa (⟨x,y⟩:Part)) n (p.body,0)) n (p.nest,a))
def vM(n:Nat)(a:aE)(b:Int):Option aE:=((k7 n a).bind λc=>(aB c.aM (wr (b+1))).bind λe=>(aB c.aM b).bind λh=>(cd c.aM b e).bind λd=>(aB d (wr (b+1))).bind λk=>(cd d (wr (b+1)) h).bind λi=>aa (⟨i,c.const⟩:aE))
def DY(n:Nat)(p:Prog)(b a:Int):Option (Prog×Bool):=((jl n p b a).bind λe=>bif e.2 then bif aj (a<0) then aa ((⟨[],[]⟩:Prog),al) else(aB e.1.parts b).bind λc=>bif aj ((c.nest.length:Int)<=wr (a+1)) then aa ((⟨[],[]⟩:Prog),al) else(aB c.nest (wr (a+1))).bind λq=>(EC n q a).bind λr=>bif r then aa ((⟨[],[]⟩:Prog),al) else(xV n p b λh=>vN n h a).bind λs=>bif s then(aB c.nest a).bind λw=>(cd c.nest a q).bind λi=>(cd i (wr (a+1)) w).bind λd=>(cd e.1.parts b (⟨d,c.body⟩:Part)).bind λk=>(pw n (⟨d,c.body⟩:Part) (wr (a+2)) λh=>vM n h a).bind λl=>(cd k b l).bind λm=>(lP n (⟨e.1.a7,m⟩:Prog)).bind λo=>aa o else aa ((⟨[],[]⟩:Prog),al) else aa ((⟨[],[]⟩:Prog),al))
def ES(n:Nat)(a:aE):Option Bool:=((f7 n a).bind λb=>aa (aj ((0:Int)<b)))
def Ac(n:Nat)(a:List aE):Option Bool:=((ps n a λb=>ES n b).bind λc=>aa (!c))
def wg(n:Nat)(l:Loop):Option (Int×Int×Bool):=(aS (fun(b:Bool)=>bif b then aa (0,0,al) else(aB l.bq 0).bind λc=>(aB l.aL 0).bind λd=>aa (c.const,d.const,ab)) λa=>bif !decide ((l.bq.length:Int)=1) then a ab else bif !decide ((l.aL.length:Int)=1) then a ab else(Ac n l.bq).bind λe=>bif !e then a ab else(Ac n l.aL).bind λh=>a (!h))
def vL(n:Nat)(d:List Int)(a:Int):Option (List Int):=((aB d a).bind λb=>(cd d a (wr (0-b))).bind λc=>aa c)
def pK(n:Nat)(a:Int):Option aE:=((mk 4 0).bind λb=>aa (⟨b,a⟩:aE))
def nH(n:Nat)(v k:Int):Option aE:=((pK n 0).bind λa=>(aB a.aM v).bind λc=>(cd a.aM v k).bind λb=>aa (⟨b,a.const⟩:aE))
def sr(n:Nat)(a:aE)(k:Int)(b:aE):Option aE:=((k7 n a).bind λe=>bz (λh ((d,c):(List Int)×Int)=>bif aj (c<b.aM.length) then(aB b.aM c).bind λi=>(aB d c).bind λl=>(cd d c (wr (l+(wr (k*i))))).bind λm=>h (m,wr (c+1)) else aa (⟨d,wr (e.const+(wr (k*b.const)))⟩:aE)) n (e.aM,0))
def uD(n:Nat)(a:aE)(v:Int)(b:aE):Option aE:=((k7 n a).bind λc=>(aB c.aM v).bind λd=>(cd c.aM v 0).bind λe=>(sr n (⟨e,c.const⟩:aE) d b).bind λh=>aa h)
def vK(n:Nat)(a:aE)(b:Int)(c:aE):Option aE:=((uD n a b c).bind λd=>aa d)
def DX(n:Nat)(p:Prog)(b a:Int):Option (Prog×Bool):=((jl n p b a).bind λc=>bif c.2 then bif aj (a<0) then aa ((⟨[],[]⟩:Prog),al) else(aB c.1.parts b).bind λl=>(aB l.nest a).bind λm=>(wg n m).bind λd=>bif d.2.2 then(xV n p b λe=>vL n e a).bind λo=>bif o then(nH n a (-1)).bind λq=>(pw n l (wr (a+1)) λe=>vK n e a (⟨q.aM,wr ((wr (d.1+d.2.1))-1)⟩:aE)).bind λh=>(cd c.1.parts b h).bind λi=>(lP n (⟨c.1.a7,i⟩:Prog)).bind λk=>aa k else aa ((⟨[],[]⟩:Prog),al) else aa ((⟨[],[]⟩:Prog),al) else aa ((⟨[],[]⟩:Prog),al))
def xG(n:Nat)(a:Int):Option Bool:=((fz n a (-6) 6).bind λb=>aa b)
def zk(n:Nat)(a:aE)(b c:Int):Option aE:=((nH n c 1).bind λd=>(sr n a b d).bind λe=>aa e)
def we(n:Nat)(a:aE)(b:Int)(c:aE):Option aE:=((uD n a (wr (b+1)) c).bind λd=>aa d)
def Ay(n:Nat)(p:Prog)(b a c:Int):Option (Prog×Bool):=((jl n p b a).bind λe=>bif e.2 then aS (fun(r:Bool)=>bif r then aa ((⟨[],[]⟩:Prog),al) else(aB e.1.parts b).bind λd=>(aB d.nest (wr (a+1))).bind λs=>(tf n s λh=>zk n h c a).bind λw=>(cd d.nest (wr (a+1)) w).bind λq=>(cd e.1.parts b (⟨q,d.body⟩:Part)).bind λi=>(nH n (wr (a+1)) 1).bind λx=>(nH n a 1).bind λy=>(sr n x (wr (0-c)) y).bind λz=>(pw n (⟨q,d.body⟩:Part) (wr (a+2)) λh=>we n h a z).bind λk=>(cd i b k).bind λl=>(lP n (⟨e.1.a7,l⟩:Prog)).bind λm=>aa m) (λo=>bif aj (a<0) then o ab else(aB e.1.parts b).bind λd=>bif aj ((d.nest.length:Int)<=wr (a+1)) then o ab else(xG n c).bind λA=>o (!A)) else aa ((⟨[],[]⟩:Prog),al))
def y'(n:Nat)(a:aE)(b:Int):Option aE:=((pK n 1).bind λc=>(sr n a b c).bind λd=>aa d)
def v8(n:Nat)(a:aE)(b:Int)(c:aE):Option aE:=((uD n a b c).bind λd=>aa d)
def EA(n:Nat)(p:Prog)(b a c:Int):Option (Prog×Bool):=((jl n p b a).bind λd=>bif d.2 then aS (fun(r:Bool)=>bif r then aa ((⟨[],[]⟩:Prog),al) else(aB d.1.parts b).bind λe=>(aB e.nest a).bind λs=>(tf n s λh=>y' n h c).bind λw=>(cd e.nest a w).bind λo=>(cd d.1.parts b (⟨o,e.body⟩:Part)).bind λi=>(nH n a 1).bind λx=>(pw n (⟨o,e.body⟩:Part) (wr (a+1)) λh=>v8 n h a (⟨x.aM,wr (0-c)⟩:aE)).bind λk=>(cd i b k).bind λl=>(lP n (⟨d.1.a7,l⟩:Prog)).bind λm=>aa m) (λq=>bif aj (a<0) then q ab else(xG n c).bind λy=>q (!y)) else aa ((⟨[],[]⟩:Prog),al))
def sA{α:Type}(l:List α)(o:Nat)(x:List α):List α:=l.take o++x.take (Nat.min x.length (l.length-o))++l.drop (o+Nat.min x.length (l.length-o))
def v7(n:Nat)(a:aE)(b:Int):Option aE:=((k7 n a).bind λc=>bif aj ((0:Int)<=wr (b+1)) then bif aj (wr (b+1)<c.aM.length) then(sub a.aM b a.aM.length).bind λd=>(aB (sA c.aM (wr (b+1)).toNat d) b).bind λh=>(cd (sA c.aM (wr (b+1)).toNat d) b 0).bind λe=>aa (⟨e,c.const⟩:aE) else ak else ak)
def vY(n:Nat)(s:List Loop)(i:Int)(v:List Loop):Option (List Loop):=(bif aj ((0:Int)<=i) then bif aj (i<=s.length) then app (s.take i.toNat++v) (s.drop i.toNat) else ak else ak)
def Ex(n:Nat)(p:Prog)(c a b:Int):Option (Prog×Bool):=((jl n p c a).bind λe=>bif e.2 then(aB e.1.parts c).bind λi=>aS (fun(r:Bool)=>bif r then aa ((⟨[],[]⟩:Prog),al) else(aB i.nest a).bind λs=>(wg n s).bind λd=>bif d.2.2 then(pw n i a λw=>v7 n w a).bind λh=>(cd e.1.parts c h).bind λx=>(wk b).bind λG=>(nH n a b).bind λy=>(nH n a b).bind λz=>(pK n d.1).bind λA=>(pK n d.2.1).bind λB=>(aB h.nest a).bind λH=>(cd h.nest a (⟨[A,(⟨y.aM,d.1⟩:aE)],[B,(⟨z.aM,wr (d.1+b)⟩:aE)]⟩:Loop)).bind λk=>(pK n 0).bind λC=>(pK n (wr (Int.tdiv (wr ((wr ((max 0 (wr (d.2.1-d.1)))+b))-1)) b))).bind λD=>(vY n k a [(⟨[C],[D]⟩:Loop)]).bind λl=>(cd x c (⟨l,h.body⟩:Part)).bind λm=>(lP n (⟨e.1.a7,m⟩:Prog)).bind λo=>aa o else aa ((⟨[],[]⟩:Prog),al)) (λq=>bif aj (a<0) then q ab else bif aj ((i.nest.length:Int)=4) then q ab else(fz n b 1 6).bind λF=>q (!F)) else aa ((⟨[],[]⟩:Prog),al))
def Km(n:Nat)(b:List Loop)(c:List Loop)(d:Loop->Loop->Option Bool):Option Bool:=(bif !decide ((b.length:Int)=c.length) then aa al else bz (λe (a:Int)=>bif aj (a<b.length) then(aB b a).bind λh=>(aB c a).bind λi=>(d h i).bind λk=>bif !k then aa al else e (wr (a+1)) else aa ab) n 0)
def yQ(n:Nat)(b:List aE)(c:List aE)(d:aE->aE->Option Bool):Option Bool:=(bif !decide ((b.length:Int)=c.length) then aa al else bz (λe (a:Int)=>bif aj (a<b.length) then(aB b a).bind λh=>(aB c a).bind λi=>(d h i).bind λk=>bif !k then aa al else e (wr (a+1)) else aa ab) n 0)
def oC(n:Nat)(a b:aE):Option Bool:=(aS (fun(d:Bool)=>aa d) λc=>(EP n a.aM b.aM).bind λe=>bif e then c (aj (a.const=b.const)) else c al)
def zl(n:Nat)(x y:Loop):Option Bool:=(aS (fun(d:Bool)=>aa d) λc=>(yQ n x.bq y.bq λa b=>oC n a b).bind λe=>bif e then(yQ n x.aL y.aL λa b=>oC n a b).bind λh=>c h else c al)
def Az(n:Nat)(a:List Loop)(b:List Loop):Option Bool:=((Km n a b λc d=>zl n c d).bind λe=>aa e)
def A7(n:Nat)(p:List Int)(q:List Int):Option Bool:=((KH n p q).bind λa=>aa (aj (a<0)))
def te(n:Nat)(s:List Part)(i j:Int):Option (Nat×List Part):=(bif aj ((0:Int)<=i) then bif aj (i<=j) then bif aj (j<=s.length) then bif aj (i=j) then aa (s.length,s) else aa (dK s i j,hf s i j (⟨[],[]⟩:Part)) else ak else ak else ak)
def tw(n:Nat)(p:Prog)(a:Int):Option (Prog×Bool):=((jl n p a (-1)).bind λd=>bif d.2 then(aB d.1.parts a).bind λb=>aS (fun(A:Bool)=>bif A then aa ((⟨[],[]⟩:Prog),al) else(pX n p).bind λl=>bif l.1.isSome then(vZ n (l.1.getD default)).bind λy=>bz (λB (m:Int)=>bif aj (m<y.length) then(aB y m).bind λe=>(aB ((l.1.getD default).list) e.eQ).bind λh=>(aB ((l.1.getD default).list) e.eR).bind λi=>aS (fun(o:Bool)=>bif o then aa ((⟨[],[]⟩:Prog),al) else B (wr (m+1))) (λc=>bif aj (h.part=a) then bif aj (i.part=wr (a+1)) then(A7 n i.db h.db).bind λq=>c q else c al else c al) else(aB d.1.parts (wr (a+1))).bind λr=>(app b.body r.body).bind λs=>(cd d.1.parts a (⟨b.nest,s⟩:Part)).bind λw=>(te n w (wr (a+1)) (wr (a+2))).bind λk=>(lP n (⟨d.1.a7,k.2.take k.1⟩:Prog)).bind λx=>aa x) n 0 else ak) (λz=>bif aj ((p.parts.length:Int)<=wr (a+1)) then z ab else(aB p.parts (wr (a+1))).bind λC=>(Az n b.nest C.nest).bind λD=>z (!D)) else aa ((⟨[],[]⟩:Prog),al))
def E5(n:Nat)(s:List Stmt):Option (List Stmt):=(bif s.isEmpty then ak else(app [] s).bind λa=>aa a)
def vX(n:Nat)(s:List Part)(i:Int)(v:List Part):Option (List Part):=(bif aj ((0:Int)<=i) then bif aj (i<=s.length) then app (s.take i.toNat++v) (s.drop i.toNat) else ak else ak)
def sJ(n:Nat)(p:Prog)(b a:Int):Option (Prog×Bool):=((jl n p b (-1)).bind λi=>bif i.2 then(aB i.1.parts b).bind λc=>aS (fun(B:Bool)=>bif B then aa ((⟨[],[]⟩:Prog),al) else(pX n p).bind λk=>bif k.1.isSome then(vZ n (k.1.getD default)).bind λz=>bz (λC (l:Int)=>bif aj (l<z.length) then(aB z l).bind λA=>(aB ((k.1.getD default).list) A.eQ).bind λe=>(aB ((k.1.getD default).list) A.eR).bind λh=>aS (fun(m:Bool)=>bif m then aa ((⟨[],[]⟩:Prog),al) else C (wr (l+1))) (λd=>bif aj (e.part=b) then bif aj (h.part=b) then bif aj (h.stmt<a) then d (aj (a<=e.stmt)) else d al else d al else d al) else(rl n c.nest).bind λo=>(sub c.body a c.body.length).bind λq=>(E5 n q).bind λr=>(sub c.body 0 a).bind λs=>(cd i.1.parts b {c with body:=s}).bind λw=>(vX n w (wr (b+1)) [(⟨o,r⟩:Part)]).bind λx=>(lP n (⟨i.1.a7,x⟩:Prog)).bind λy=>aa y) n 0 else ak) (λD=>(fz n a 1 (wr ((c.body.length:Int)-1))).bind λF=>D (!F)) else aa ((⟨[],[]⟩:Prog),al))
def Ez(n:Nat)(p:Prog)(b a:Int):Option (Prog×Bool):=((jl n p b (-1)).bind λe=>bif e.2 then(aB e.1.parts b).bind λd=>bif aj ((d.nest.length:Int)=0) then aa ((⟨[],[]⟩:Prog),al) else(aB d.nest 0).bind λh=>(wg n h).bind λi=>bif i.2.2 then(fz n a i.1 i.2.1).bind λz=>bif z then(rk n d).bind λk=>(aB h.aL 0).bind λl=>(cd h.aL 0 {l with const:=a}).bind λm=>(cd d.nest 0 {h with aL:=m}).bind λo=>(cd e.1.parts b {d with nest:=o}).bind λq=>(aB k.nest 0).bind λc=>(aB c.bq 0).bind λr=>(cd c.bq 0 {r with const:=a}).bind λs=>(cd k.nest 0 {c with bq:=s}).bind λw=>(vX n q (wr (b+1)) [(⟨w,k.body⟩:Part)]).bind λx=>(lP n (⟨e.1.a7,x⟩:Prog)).bind λy=>aa y else aa ((⟨[],[]⟩:Prog),al) else aa ((⟨[],[]⟩:Prog),al) else aa ((⟨[],[]⟩:Prog),al))
def DI(n:Nat)(p:Prog):Option Int:=(bz (λc ((b,a):Int×Int)=>bif aj (a<p.a7.length) then(aB p.a7 a).bind λd=>(Ej n d).bind λe=>c (wr (b+e),wr (a+1)) else aa b) n (0,0))
def yV(n:Nat)(t:og)(d:Int):Option ((List Bool)×(List Bool)):=((DI n t.program).bind λy=>(mk y al).bind λz=>(DI n t.program).bind λA=>(mk A al).bind λB=>bz (λo ((p,m,e):(List Bool)×(List Bool)×Int)=>bif aj (e<t.list.length) then aS (fun((q,r,C,D,F):(List Bool)×(List Bool)×Int×Int×(List Int))=>o (q,r,wr (e+1))) (λh=>(aB t.list e).bind λa=>bif !decide (a.part=d) then h (p,m,a.part,a.stmt,a.db) else(aB t.reads e).bind λi=>bz (λs ((b,c):(List Bool)×Int)=>bif aj (c<i.length) then(aB i c).bind λk=>(aB b k).bind λG=>(cd b k ab).bind λw=>s (w,wr (c+1)) else(aB t.iX e).bind λl=>(aB m l).bind λH=>(cd m l ab).bind λx=>h (b,x,a.part,a.stmt,a.db)) n (p,0)) else aa (p,m)) n (z,B,0))
def Dz(n:Nat)(p:Prog)(a b:Int):Option Bool:=((pX n p).bind λi=>bif i.1.isSome then aS (fun(y:Bool)=>bif y then aa al else(yV n (i.1.getD default) a).bind λe=>(yV n (i.1.getD default) b).bind λh=>bz (λm (c:Int)=>bif aj (c<e.1.length) then aS (fun(o:Bool)=>bif o then aa al else m (wr (c+1))) (λd=>(aB e.2 c).bind λq=>bif q then(aB h.1 c).bind λr=>bif r then d ab else(aB h.2 c).bind λs=>bif s then d ab else d al else(aB h.2 c).bind λw=>bif w then(aB e.1 c).bind λx=>d x else d al) else aa ab) n 0) (λk=>bif !i.2 then k ab else(k6 n p a).bind λz=>bif !z then k ab else(k6 n p b).bind λA=>bif !A then k ab else k (aj (a=b))) else aS (fun(B:Bool)=>bif B then aa al else ak) λl=>bif !i.2 then l ab else(k6 n p a).bind λC=>bif !C then l ab else(k6 n p b).bind λD=>bif !D then l ab else l (aj (a=b)))
def tv(n:Nat)(p:Prog)(a:Int):Option (Prog×Bool):=(aS (fun(e:Bool)=>bif e then aa ((⟨[],[]⟩:Prog),al) else(oA n p).bind λb=>(aB b.parts (wr (a+1))).bind λh=>(aB b.parts a).bind λi=>(cd b.parts a h).bind λd=>(aB d (wr (a+1))).bind λm=>(cd d (wr (a+1)) i).bind λk=>aa ((⟨b.a7,k⟩:Prog),ab)) λc=>bif aj (a<0) then c ab else bif aj ((p.parts.length:Int)<=a) then c ab else(Dz n p a (wr (a+1))).bind λl=>c (!l))
def m9(n:Nat)(t:og)(a:Int):Option (List Int):=((aB t.reads a).bind λi=>bz (λm ((k,c):(List Int)×Int)=>bif aj (c<i.length) then(aB i c).bind λo=>bz (λp (b:Int)=>aS (fun(d:Bool)=>bif d then p (wr (b-1)) else(app k [b]).bind λe=>m (e,wr (c+1))) λl=>bif aj ((0:Int)<=b) then(aB t.iX b).bind λh=>l (!decide (h=o)) else l al) n (wr (a-1)) else aa k) n ([],0))
def DW(n:Nat)(t:og):Option (List Bool):=((mk t.list.length al).bind λy=>bz (λz ((e,b):(List Bool)×Int)=>bif aj ((0:Int)<=b) then aS (fun(k:(List Bool))=>z (k,wr (b-1))) (λw=>aS (fun(l:Bool)=>bif l then w e else(aB e b).bind λA=>(cd e b ab).bind λm=>(m9 n t b).bind λh=>bz (λo ((a,c):(List Bool)×Int)=>bif aj (c<h.length) then aS (fun(p:(List Bool))=>o (p,wr (c+1))) (λi=>(aB h c).bind λd=>bif aj ((0:Int)<=d) then(aB a d).bind λB=>(cd a d ab).bind λq=>i q else i a) else w a) n (m,0)) λx=>(aB e b).bind λC=>bif !C then(sub t.iX (wr (b+1)) (t.iX.length:Int)).bind λD=>(aB t.iX b).bind λr=>(vV n D r).bind λs=>x s else x al) else aa e) n (y,wr ((t.list.length:Int)-1)))
def tF(n:Nat)(p:Prog)(a:Int):Option (Prog×Bool):=((pX n p).bind λb=>bif b.1.isSome then aS (fun(s:Bool)=>bif s then aa ((⟨[],[]⟩:Prog),al) else(DW n (b.1.getD default)).bind λo=>bz (λi (h:Int)=>bif aj (h<o.length) then(aB o h).bind λk=>aS (fun(l:Bool)=>bif l then aa ((⟨[],[]⟩:Prog),al) else i (wr (h+1))) (λc=>bif k then(aB ((b.1.getD default).list) h).bind λm=>c (aj (m.part=a)) else c al) else(oA n p).bind λd=>(te n d.parts a (wr (a+1))).bind λe=>aa ((⟨d.a7,e.2.take e.1⟩:Prog),ab)) n 0) (λq=>bif !b.2 then q ab else(k6 n p a).bind λw=>q (!w)) else aS (fun(x:Bool)=>bif x then aa ((⟨[],[]⟩:Prog),al) else ak) λr=>bif !b.2 then r ab else(k6 n p a).bind λy=>r (!y))
def om(n:Nat)(a:Int):Option Expr:=(aa (⟨1,a,(⟨[],0⟩:aE),(⟨[],[]⟩:cx),[]⟩:Expr))
def iO(n:Nat)(e:Expr)(a:Int):Option Bool:=(aS (fun(c:Bool)=>aa c) λb=>bif aj (e.kind=1) then b (aj (e.num=a)) else b al)
def q3:Nat->Expr->Option Expr
 |0,_=>ak
 |n+1,e=>(aS (fun(H:Bool)=>bif H then(om n e.index.const).bind λK=>aa K else(se n e.kind).bind λL=>bif !L then aa e else(aB e.aZ 0).bind λQ=>(q3 n Q).bind λa=>(aB e.aZ 1).bind λR=>(q3 n R).bind λb=>aS (fun(m:Bool)=>bif m then aS (fun(k:Int)=>(fz n k 0 99).bind λo=>bif o then(om n k).bind λp=>aa p else aa (⟨e.kind,0,(⟨[],0⟩:aE),(⟨[],[]⟩:cx),[a,b]⟩:Expr)) (λh=>bif aj (e.kind=5) then h (wr (a.num-b.num)) else bif aj (e.kind=6) then h (wr (a.num*b.num)) else h (wr (a.num+b.num))) else aS (fun(q:Bool)=>bif q then aa a else aS (fun(r:Bool)=>bif r then aa b else aS (fun(s:Bool)=>bif s then(om n 0).bind λw=>aa w else aa (⟨e.kind,0,(⟨[],0⟩:aE),(⟨[],[]⟩:cx),[a,b]⟩:Expr)) λi=>bif aj (e.kind=6) then(iO n a 0).bind λx=>bif x then i ab else(iO n b 0).bind λy=>i y else i al) λc=>bif aj (e.kind=4) then(iO n a 0).bind λz=>bif z then c ab else bif aj (e.kind=6) then(iO n a 1).bind λA=>c A else c al else bif aj (e.kind=6) then(iO n a 1).bind λB=>c B else c al) λd=>bif !(aj (e.kind=6)) then(iO n b 0).bind λC=>bif C then d ab else bif aj (e.kind=6) then(iO n b 1).bind λD=>d D else d al else bif aj (e.kind=6) then(iO n b 1).bind λF=>d F else d al) λl=>bif aj (a.kind=1) then l (aj (b.kind=1)) else l al) λG=>bif aj (e.kind=2) then(f7 n e.index).bind λW=>bif aj (W=0) then G (aj ((0:Int)<=e.index.const)) else G al else G al)
def ug(n:Nat)(s:Stmt):Option Stmt:=((wU n s).bind λa=>(q3 n a.value).bind λb=>aa (⟨a.write,b⟩:Stmt))
def DZ(n:Nat)(p:Prog):Option (Prog×Bool):=((tc n p).bind λi=>bif !i then aa ((⟨[],[]⟩:Prog),al) else(oA n p).bind λe=>bz (λk ((h,a):(List Part)×Int)=>bif aj (a<e.parts.length) then(aB h a).bind λb=>bz (λl ((c,d):(List Stmt)×Int)=>bif aj (d<b.body.length) then(aB c d).bind λm=>(ug n m).bind λo=>(cd c d o).bind λq=>l (q,wr (d+1)) else(fe b.body c).bind λs=>(cd h a (⟨b.nest,c⟩:Part)).bind λr=>k (r,wr (a+1))) n (b.body,0) else aa ((⟨e.a7,h⟩:Prog),ab)) n (e.parts,0))
def tx(n:Nat)(p:Prog)(s:Step):Option (Prog×Bool):=((A4 n s).bind λw=>bif !w then aa ((⟨[],[]⟩:Prog),al) else bif aj (s.kind=1) then(DY n p s.part s.a).bind λh=>aa (h.1,h.2) else bif aj (s.kind=2) then(DX n p s.part s.a).bind λi=>aa (i.1,i.2) else bif aj (s.kind=3) then(Ay n p s.part s.a s.b).bind λk=>aa (k.1,k.2) else bif aj (s.kind=4) then(EA n p s.part s.a s.b).bind λl=>aa (l.1,l.2) else bif aj (s.kind=5) then(Ex n p s.part s.a s.b).bind λm=>aa (m.1,m.2) else bif aj (s.kind=6) then(tw n p s.part).bind λo=>aa (o.1,o.2) else bif aj (s.kind=7) then(sJ n p s.part s.a).bind λq=>aa (q.1,q.2) else bif aj (s.kind=8) then(Ez n p s.part s.a).bind λr=>aa (r.1,r.2) else bif aj (s.kind=9) then(tv n p s.part).bind λc=>aa (c.1,c.2) else bif aj (s.kind=10) then(tF n p s.part).bind λd=>aa (d.1,d.2) else(DZ n p).bind λe=>aa (e.1,e.2))
def xp(n:Nat)(a:List Int)(b:List Int):Option Bool:=(bif !decide ((a.length:Int)=b.length) then aa al else bz (λd (c:Int)=>bif aj (c<a.length) then(aB a c).bind λe=>(aB b c).bind λh=>bif !decide (e=h) then aa al else d (wr (c+1)) else aa ab) n 0)
def AK(n:Nat)(a b:cz):Option Bool:=(bif !decide (a.name=b.name) then aa al else(xp n a.b9 b.b9).bind λc=>bif !c then aa al else aa ab)
def FF(n:Nat)(a:List cz)(b:List cz):Option Bool:=(bif !decide ((a.length:Int)=b.length) then aa al else bz (λd (c:Int)=>bif aj (c<a.length) then(aB a c).bind λe=>(aB b c).bind λh=>(AK n e h).bind λi=>bif !i then aa al else d (wr (c+1)) else aa ab) n 0)
def zI(n:Nat)(a b:aE):Option Bool:=((xp n a.aM b.aM).bind λc=>bif !c then aa al else bif !decide (a.const=b.const) then aa al else aa ab)
def zw(n:Nat)(a:List aE)(b:List aE):Option Bool:=(bif !decide ((a.length:Int)=b.length) then aa al else bz (λd (c:Int)=>bif aj (c<a.length) then(aB a c).bind λe=>(aB b c).bind λh=>(zI n e h).bind λi=>bif !i then aa al else d (wr (c+1)) else aa ab) n 0)
def Bx(n:Nat)(a b:Loop):Option Bool:=((zw n a.bq b.bq).bind λc=>bif !c then aa al else(zw n a.aL b.aL).bind λd=>bif !d then aa al else aa ab)
def Gx(n:Nat)(a:List Loop)(b:List Loop):Option Bool:=(bif !decide ((a.length:Int)=b.length) then aa al else bz (λd (c:Int)=>bif aj (c<a.length) then(aB a c).bind λe=>(aB b c).bind λh=>(Bx n e h).bind λi=>bif !i then aa al else d (wr (c+1)) else aa ab) n 0)
def zJ(n:Nat)(a b:cx):Option Bool:=(bif !decide (a.array=b.array) then aa al else(zw n a.ba b.ba).bind λc=>bif !c then aa al else aa ab)
def Gy(n:Nat)(self:Expr->Expr->Option Bool)(a:List Expr)(b:List Expr):Option Bool:=(bif !decide ((a.length:Int)=b.length) then aa al else bz (λd (c:Int)=>bif aj (c<a.length) then(aB a c).bind λe=>(aB b c).bind λh=>(self e h).bind λi=>bif !i then aa al else d (wr (c+1)) else aa ab) n 0)
def p9:Nat->Expr->Expr->Option Bool
 |0,_,_=>ak
 |n+1,a,b=>(bif !decide (a.kind=b.kind) then aa al else bif !decide (a.num=b.num) then aa al else(zI n a.index b.index).bind λc=>bif !c then aa al else(zJ n a.read b.read).bind λd=>bif !d then aa al else(Gy n (p9 n) a.aZ b.aZ).bind λe=>bif !e then aa al else aa ab)
def Bv(n:Nat)(a b:Stmt):Option Bool:=((zJ n a.write b.write).bind λc=>bif !c then aa al else(p9 n a.value b.value).bind λd=>bif !d then aa al else aa ab)
def Gu(n:Nat)(a:List Stmt)(b:List Stmt):Option Bool:=(bif !decide ((a.length:Int)=b.length) then aa al else bz (λd (c:Int)=>bif aj (c<a.length) then(aB a c).bind λe=>(aB b c).bind λh=>(Bv n e h).bind λi=>bif !i then aa al else d (wr (c+1)) else aa ab) n 0)
def Bw(n:Nat)(a b:Part):Option Bool:=((Gx n a.nest b.nest).bind λc=>bif !c then aa al else(Gu n a.body b.body).bind λd=>bif !d then aa al else aa ab)
def Gw(n:Nat)(a:List Part)(b:List Part):Option Bool:=(bif !decide ((a.length:Int)=b.length) then aa al else bz (λd (c:Int)=>bif aj (c<a.length) then(aB a c).bind λe=>(aB b c).bind λh=>(Bw n e h).bind λi=>bif !i then aa al else d (wr (c+1)) else aa ab) n 0)
def tr(n:Nat)(a b:Prog):Option Bool:=((FF n a.a7 b.a7).bind λc=>bif !c then aa al else(Gw n a.parts b.parts).bind λd=>bif !d then aa al else aa ab)
def j5(n:Nat)(k:Int):Option (List UInt8):=(bif aj (k<=0) then aa [109,48] else bz (λc ((a,b):Int×(List UInt8))=>bif aj ((0:Int)<a) then(cat [UInt8.ofInt (wr (48+(Int.tmod a 10)))] b).bind λd=>c (wr (Int.tdiv a 10),d) else(cat [109] b).bind λe=>aa e) n (k,[]))
def nA(n:Nat)(a:List Int)(k:Int):Option Int:=(bz (λd ((b,c):Int×Int)=>bif aj (c<a.length) then(aB a c).bind λe=>bif !decide (e=b) then aa (-1) else d (wr (b+1),wr (c+1)) else aa b) n (k,0))
def wa(n:Nat)(a:List cz)(k:Int):Option Int:=(bz (λh ((b,c):Int×Int)=>bif aj (c<a.length) then(aB a c).bind λd=>(j5 n b).bind λi=>bif !decide (d.name=i) then aa (-1) else(nA n d.b9 (wr (b+1))).bind λe=>bif aj (e<0) then aa (-1) else h (e,wr (c+1)) else aa b) n (k,0))
def kG(n:Nat)(a:List aE)(k:Int):Option Int:=(bz (λh ((d,b):Int×Int)=>bif aj (b<a.length) then(aB a b).bind λe=>(nA n e.aM d).bind λc=>bif aj (c<0) then aa (-1) else bif !decide (e.const=c) then aa (-1) else h (wr (c+1),wr (b+1)) else aa d) n (k,0))
def tq(n:Nat)(a:List Loop)(k:Int):Option Int:=(bz (λi ((c,b):Int×Int)=>bif aj (b<a.length) then(aB a b).bind λd=>(kG n d.bq c).bind λe=>bif aj (e<0) then aa (-1) else(kG n d.aL e).bind λh=>bif aj (h<0) then aa (-1) else i (h,wr (b+1)) else aa c) n (k,0))
def ni:Nat->(List Expr)->Int->Option Int
 |0,_,_=>ak
 |n+1,a,k=>(bz (λl ((c,e):Int×Int)=>bif aj (e<a.length) then(aB a e).bind λb=>bif !decide (b.kind=c) then aa (-1) else bif !decide (b.num=wr (c+1)) then aa (-1) else(nA n b.index.aM (wr ((wr (c+1))+1))).bind λd=>bif aj (d<0) then aa (-1) else bif !decide (b.index.const=d) then aa (-1) else(j5 n (wr (d+1))).bind λm=>bif !decide (b.read.array=m) then aa (-1) else(kG n b.read.ba (wr ((wr (d+1))+1))).bind λh=>bif aj (h<0) then aa (-1) else(ni n b.aZ h).bind λi=>bif aj (i<0) then aa (-1) else l (i,wr (e+1)) else aa c) n (k,0))
def tp(n:Nat)(a:List Stmt)(k:Int):Option Int:=(bz (λm ((h,i):Int×Int)=>bif aj (i<a.length) then(aB a i).bind λb=>(j5 n h).bind λo=>bif !decide (b.write.array=o) then aa (-1) else(kG n b.write.ba (wr (h+1))).bind λd=>bif aj (d<0) then aa (-1) else bif !decide (b.value.kind=d) then aa (-1) else bif !decide (b.value.num=wr (d+1)) then aa (-1) else(nA n b.value.index.aM (wr ((wr (d+1))+1))).bind λe=>bif aj (e<0) then aa (-1) else bif !decide (b.value.index.const=e) then aa (-1) else(j5 n (wr (e+1))).bind λp=>bif !decide (b.value.read.array=p) then aa (-1) else(kG n b.value.read.ba (wr ((wr (e+1))+1))).bind λl=>bif aj (l<0) then aa (-1) else(ni n b.value.aZ l).bind λc=>bif aj (c<0) then aa (-1) else m (c,wr (i+1)) else aa h) n (k,0))
def wq(n:Nat)(a:List Part)(k:Int):Option Int:=(bz (λi ((c,b):Int×Int)=>bif aj (b<a.length) then(aB a b).bind λd=>(tq n d.nest c).bind λe=>bif aj (e<0) then aa (-1) else(tp n d.body e).bind λh=>bif aj (h<0) then aa (-1) else i (h,wr (b+1)) else aa c) n (k,0))
def y6(n:Nat)(a:Prog)(k:Int):Option Int:=((wa n a.a7 k).bind λb=>bif aj (b<0) then aa (-1) else(wq n a.parts b).bind λc=>bif aj (c<0) then aa (-1) else aa c)
def wN(n:Nat)(a:List Step)(left:Int):Option Int:=(bif aj (wr (left-(a.length:Int))<0) then aa (-1) else aa (wr (left-(a.length:Int))))
def Ef(n:Nat)(p:Prog)(a:List Step):Option (Prog×Bool):=((iL n p).bind λe=>aS (fun(m:Bool)=>bif m then aa ((⟨[],[]⟩:Prog),al) else(tV n e).bind λh=>bz (λo ((i,k,c):(List cz)×(List Part)×Int)=>bif aj (c<a.length) then(aB a c).bind λd=>(wx n (⟨i,k⟩:Prog) d).bind λb=>bif !b.2 then aa ((⟨[],[]⟩:Prog),al) else o (b.1.a7,b.1.parts,wr (c+1)) else aa ((⟨i,k⟩:Prog),ab)) n (h.a7,h.parts,0)) λl=>(lM n e).bind λq=>bif !q then l ab else l (aj ((12:Int)<a.length)))
def tJ(n:Nat)(a:List Step):Option (List Step):=((mk a.length (⟨0,0,0,0⟩:Step)).bind λd=>bz (λe ((c,b):(List Step)×Int)=>bif aj (b<a.length) then(aB a b).bind λh=>(NR n h).bind λi=>(aB c b).bind λl=>(cd c b i).bind λk=>e (k,wr (b+1)) else aa c) n (d,0))
def wh(n:Nat)(p:Prog)(a:List Step):Option (Prog×Bool):=(aS (fun(k:Bool)=>bif k then aa ((⟨[],[]⟩:Prog),al) else(oA n p).bind λd=>bz (λl ((e,h,c):(List cz)×(List Part)×Int)=>bif aj (c<a.length) then(aB a c).bind λm=>(tx n (⟨e,h⟩:Prog) m).bind λb=>bif !b.2 then aa ((⟨[],[]⟩:Prog),al) else l (b.1.a7,b.1.parts,wr (c+1)) else aa ((⟨e,h⟩:Prog),ab)) n (d.a7,d.parts,0)) λi=>(tc n p).bind λo=>bif !o then i ab else i (aj ((12:Int)<a.length)))
def GP(n:Nat)(a b:Step):Option Bool:=(bif !decide (a.kind=b.kind) then aa al else bif !decide (a.part=b.part) then aa al else bif !decide (a.a=b.a) then aa al else bif !decide (a.b=b.b) then aa al else aa ab)
def Gv(n:Nat)(a:List Step)(b:List Step):Option Bool:=(bif !decide ((a.length:Int)=b.length) then aa al else bz (λd (c:Int)=>bif aj (c<a.length) then(aB a c).bind λe=>(aB b c).bind λh=>(GP n e h).bind λi=>bif !i then aa al else d (wr (c+1)) else aa ab) n 0)
def aH:List dw:=[⟨3,1,[]⟩,⟨121,2,[(1,0)]⟩,⟨92,2,[(0,0)]⟩,⟨82,2,[(0,2),(1,2)]⟩,⟨116,7,[(2,0),(5,2),(6,4)]⟩,⟨118,9,[(1,2),(4,0),(7,2),(8,4)]⟩,⟨86,2,[(0,3),(1,5)]⟩]
def e8(k:Int)(a:Int×List Int)(t:List UInt8)(b:Int×List aE)(c:Int×List Expr):Expr:=⟨k,wr (k+1),⟨a.2,a.1⟩,⟨t,b.2⟩,c.2⟩
def ez(t:List UInt8)(a:Int×List aE)(b:Int×List Int)(s:List UInt8)(c:Int×List aE)(d:Int×List Expr):Stmt:=⟨⟨t,a.2⟩,e8 a.1 b s c d⟩
def tA(n:Nat)(a:List Int)(k:Int):Option (Int×List Int):=bz (λd ((cA,b,c):Int×List Int×Int)=>bif aj (c<b.length) then(aB b c).bind λy=>(cd b c cA).bind λz=>d (wr (cA+1),z,wr (c+1)) else aa (cA,b)) n (k,a,0)
def Eb(n:Nat)(a:List cz)(k:Int):Option (Int×List cz):=bz (λe ((cA,b,c):Int×List cz×Int)=>bif aj (c<b.length) then(aB b c).bind λy=>(j5 n cA).bind λh=>(tA n y.b9 (wr (cA+1))).bind λd=>(fe y.b9 d.2).bind λ_=>(cd b c (⟨h,d.2⟩:cz)).bind λz=>e (d.1,z,wr (c+1)) else aa (cA,b)) n (k,a,0)
def qR(n:Nat)(a:List aE)(k:Int):Option (Int×List aE):=bz (λe ((cA,b,c):Int×List aE×Int)=>bif aj (c<b.length) then(aB b c).bind λy=>(tA n y.aM cA).bind λd=>(fe y.aM d.2).bind λ_=>(cd b c (⟨d.2,d.1⟩:aE)).bind λz=>e (wr (d.1+1),z,wr (c+1)) else aa (cA,b)) n (k,a,0)
def EF(n:Nat)(a:List Loop)(k:Int):Option (Int×List Loop):=bz (λh ((cA,b,c):Int×List Loop×Int)=>bif aj (c<b.length) then(aB b c).bind λy=>(qR n y.bq cA).bind λd=>(fe y.bq d.2).bind λ_=>(qR n y.aL d.1).bind λe=>(fe y.aL e.2).bind λ_=>(cd b c (⟨d.2,e.2⟩:Loop)).bind λz=>h (e.1,z,wr (c+1)) else aa (cA,b)) n (k,a,0)
def rL:Nat->List Expr->Int->Option (Int×List Expr)
 |0,_,_=>ak
 |n+1,a,k=>bz (λi ((cA,b,c):Int×List Expr×Int)=>bif aj (c<b.length) then(aB b c).bind λy=>(tA n y.index.aM (wr (wr (cA+1)+1))).bind λd=>(fe y.index.aM d.2).bind λ_=>(j5 n (wr (d.1+1))).bind λl=>(qR n y.read.ba (wr (wr (d.1+1)+1))).bind λe=>(fe y.read.ba e.2).bind λ_=>(rL n y.aZ e.1).bind λh=>(fe y.aZ h.2).bind λ_=>(cd b c (e8 cA d l e h)).bind λz=>i (h.1,z,wr (c+1)) else aa (cA,b)) n (k,a,0)
def EE(n:Nat)(a:List Stmt)(k:Int):Option (Int×List Stmt):=bz (λl ((cA,b,c):Int×List Stmt×Int)=>bif aj (c<b.length) then(aB b c).bind λy=>(j5 n cA).bind λm=>(qR n y.write.ba (wr (cA+1))).bind λe=>(fe y.write.ba e.2).bind λ_=>(tA n y.value.index.aM (wr (wr (e.1+1)+1))).bind λd=>(fe y.value.index.aM d.2).bind λ_=>(j5 n (wr (d.1+1))).bind λo=>(qR n y.value.read.ba (wr (wr (d.1+1)+1))).bind λh=>(fe y.value.read.ba h.2).bind λ_=>(rL n y.value.aZ h.1).bind λi=>(fe y.value.aZ i.2).bind λ_=>(cd b c (ez m e d o h i)).bind λz=>l (i.1,z,wr (c+1)) else aa (cA,b)) n (k,a,0)
def zx(n:Nat)(a:List Part)(k:Int):Option (Int×List Part):=bz (λh ((cA,b,c):Int×List Part×Int)=>bif aj (c<b.length) then(aB b c).bind λy=>(EF n y.nest cA).bind λd=>(fe y.nest d.2).bind λ_=>(EE n y.body d.1).bind λe=>(fe y.body e.2).bind λ_=>(cd b c (⟨d.2,e.2⟩:Part)).bind λz=>h (e.1,z,wr (c+1)) else aa (cA,b)) n (k,a,0)
def y7(n:Nat)(a:Prog)(k:Int):Option (Int×List cz×List Part):=(Eb n a.a7 k).bind λb=>(zx n a.parts b.1).bind λc=>aa (c.1,b.2,c.2)
def zv(n:Nat)(a:List Step)(k:Int):Option (Int×(List Step)):=bz (λq ((h,d,c):(List Step)×Int×Int)=>bif aj (c<h.length) then(aB h c).bind λr=>(cd h c ({r with kind:=d})).bind λo=>(aB o c).bind λs=>(cd o c ({s with part:=wr (d+1)})).bind λp=>(aB p c).bind λi=>(cd p c ({i with a:=wr ((wr (d+1))+1)})).bind λe=>(aB e c).bind λl=>(cd e c ({l with b:=wr ((wr ((wr (d+1))+1))+1)})).bind λm=>q (m,wr ((wr ((wr ((wr (d+1))+1))+1))+1),wr (c+1)) else aa (d,h)) n (a,k,0)
def Kc(n:Nat)(h:Prog)(a:List Step):Option Bool:=((Fe n h 1048576).bind λK=>bif aj (K<0) then aa ab else(wN n a K).bind λQ=>bif aj (Q<0) then aa ab else(tn n h).bind λR=>(tJ n a).bind λW=>(Ef n R W).bind λe=>(tn n h).bind λq=>(tJ n a).bind λp=>(wh n q p).bind λc=>aS (fun(r:Bool)=>bif r then aa al else(tn n h).bind λs=>(tr n q s).bind λw=>bif !w then aa al else(tJ n a).bind λx=>(Gv n p x).bind λy=>bif !y then aa al else(y7 n q 1).bind λz=>(zv n p z.1).bind λi=>(fe p i.2).bind λX=>aS (fun(A:Bool)=>bif A then aa al else(y7 n c.1 1).bind λb=>(fe c.1.a7 b.2.1).bind λ_=>(fe c.1.parts b.2.2).bind λ_=>(y6 n (⟨b.2.1,b.2.2⟩:Prog) 1).bind λk=>bif aj (k<0) then aa al else bif !decide (k=b.1) then aa al else(tn n h).bind λB=>(tJ n a).bind λC=>(wh n B C).bind λl=>aS (fun(D:Bool)=>bif D then aa al else(y6 n (⟨b.2.1,b.2.2⟩:Prog) 1).bind λm=>bif aj (m<0) then aa al else bif !decide (m=b.1) then aa al else aa ab) λo=>(tr n l.1 e.1).bind λF=>bif !F then o ab else o (!(l.2==e.2))) λd=>bif aj (i.1<0) then d ab else(tr n c.1 e.1).bind λG=>bif !G then d ab else d (!(c.2==e.2))) λL=>(tr n c.1 e.1).bind λH=>bif !H then L ab else L (!(c.2==e.2)))
end Go.Lift
