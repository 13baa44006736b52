/- Tools. -/
import Derived.Test.YtlbojjldejlgaaaGreatXLiftSq
import Derived.Lib.SplitLaws
namespace Go.Lift
open Go
section
theorem bd{n:Int}(h: -9223372036854775808<=n/\n<=9223372036854775807):wr n=n:=IntWalk.i64_in n O
def ah{k:Type}(o:Option k)(Q:k->Prop):Prop:= ∃r,o=some r/\Q r
section
variable {α β R nP:Type}{Q:R->Prop}
theorem ah.some{r:R}(h:Q r):ah (some r) Q:=⟨r,rfl,h⟩
theorem ah.bind{o:Option α}{f:α->Option R}(h:ah o λx=>ah (f x) Q):ah (Option.bind o f) Q:=by obtain⟨x,rfl,r,a,b⟩:=h;exact⟨r,a,b⟩
theorem jP{o:Option α}{f:α->Option R}{P:α->Prop}(h:ah o P)(k: ∀x,P x->ah (f x) Q):ah (Option.bind o f) Q:=by obtain⟨x,rfl,h⟩:=h;exact k x h
theorem ai{o:Option α}{f:α->Option R}{x:α}(h:o=Option.some x)(k:ah (f x) Q):ah (Option.bind o f) Q:=by subst h;exact k
theorem ah.mono{o:Option R}{P:R->Prop}(h:ah o P)(k: ∀x,P x->Q x):ah o Q:=by obtain⟨x,rfl,h⟩:=h;exact⟨x,rfl,k x h⟩
theorem ah.cond{c:Bool}{A B:Option R}(a:c=true->ah A Q)(b:c=false->ah B Q):ah (bif c then A else B) Q:=by
 cases c with
 |true=>exact a rfl
 |false=>exact b rfl
variable {p:Prop}{k:Type}{l:List k}
theorem bb[Decidable p]{A B:Option R}(a:p->ah A Q)(b: ¬p->ah B Q):ah (bif decide p then A else B) Q:=
 ah.cond (λh=>a (xL h)) λh=>b (of_decide_eq_false h)
theorem dL[Decidable p]{A B:Option R}(a: ¬p->ah A Q)(b:p->ah B Q):ah (bif !decide p then A else B) Q:=
 ah.cond (λh=>a (by simpa using h)) λh=>b (by simpa using h)
theorem ah.aW{a:nP->Option R}{t:(nP->Option R)->Option R}(P:nP->Prop)(b: ∀j,(∀z,P z->ah (j z) Q)->ah (t j) Q)(c: ∀z,P z->ah (a z) Q):ah (aW a t) Q:=b a c
theorem ah.loop{a:(nP->Option R)->nP->Option R}(I:nP->Prop)(jA :nP->Nat)
  (h: ∀b x,I x->(∀y,I y-> jA y< jA x->ah (b y) Q)->ah (a b x) Q): ∀(n:Nat) (x:nP),I x-> jA x<n->ah (a8 a n x) Q
 |0,_,_,c=>a6 c (lz _)
 |n+1,x,d,c=>h _ x d λy e i=>ah.loop I jA h n y e O
theorem ah.eq{o:Option R}{r:R}(h:ah o λx=>x=r):o=Option.some r:=by obtain⟨x,rfl,rfl⟩:=h;rfl
theorem ah.of{o:Option R}{r:R}(h:o=Option.some r)(k:Q r):ah o Q:=⟨r,h,k⟩
end
variable {p:Prop}{k:Type}{l:List k}
theorem bw{i:Nat}{x:k}(h:l[i]? =some x):aD l (i:Int)=some x:=by unfold aD;rw[bh O,Int.toNat_natCast];exact h
theorem rM{i:Int}(b:0<=i)(h:i<l.length): ∃x,aD l i=some x/\l[i.toNat]? =some x:=by
 have a:i.toNat<l.length:=O
 exact⟨l[i.toNat],by unfold aD;rw[bh b,bg a],bg a⟩
theorem zy{a b:Int}(c:0<=a)(d:a<=b)(e:b<=l.length):sub l a b=some ((l.take b.toNat).drop a.toNat):=by unfold sub;rw[bh ⟨c,d,e⟩]
theorem ej{a b:List k}(h:a.length+b.length<=1000000000):app a b=some (a++b):=by unfold app;rw[bh h]
theorem FU{a b:List UInt8}(h:(a.length:Int)+b.length<=9223372036854775807):cat a b=some (a++b):=by unfold cat;rw[bh h]
end
set_option linter.unusedVariables false
structure aH where
 ao:List Int
 const:Int
 deriving Inhabited
abbrev ag(x:aH):List T:=[T.aa (List.map U x.ao),T.int .i64 x.const]
theorem gb(x:aH):(ag x).length=2:=rfl
structure Loop where
 bn:List aH
 aG:List aH
 deriving Inhabited
abbrev ax(x:Loop):List T:=[T.aa (List.map ag x.bn),T.aa (List.map ag x.aG)]
theorem d0(x:Loop):(ax x).length=2:=rfl
structure bR where
 array:List UInt8
 ak:List aH
 deriving Inhabited
abbrev eg(x:bR):List T:=[T.str x.array,T.aa (List.map ag x.ak)]
theorem we(x:bR):(eg x).length=2:=rfl
structure Expr where
 kind:Int
 num:Int
 index:aH
 read:bR
 aJ:List Expr
instance:Inhabited Expr:=⟨⟨0,0,(⟨[],0⟩:aH),(⟨[],[]⟩:bR),[]⟩⟩
mutual
def al:Expr->List T
 |⟨a0,ay,a2,a3,a4⟩=>[T.int .i64 a0,T.int .i64 ay,T.aa (List.map U a2.ao),T.int .i64 a2.const,T.str a3.array,T.aa (List.map ag a3.ak),T.aa (t6 a4)]
def t6:List Expr->List (List T)
 | []=>[]
 |x::l=>al x::t6 l
end
theorem Ci: ∀l:List Expr,t6 l=List.map al l
 | []=>by simp[t6]
 |x::l=>by simp[t6,Ci l]
abbrev c8(x:Expr):List T:=[T.int .i64 x.kind,T.int .i64 x.num,T.aa (List.map U x.index.ao),T.int .i64 x.index.const,T.str x.read.array,T.aa (List.map ag x.read.ak),T.aa (List.map al x.aJ)]
theorem cw(x:Expr):al x=c8 x:=by cases x;simp[al,Ci]
theorem jL(x:Expr):(al x).length=7:=by rw[cw];rfl
theorem rn(x:Expr):js 7 1 (c8 x)=List.map al [x]:=by rw[show List.map al [x]=[c8 x] from by simp only[List.map,cw]];rfl
structure Stmt where
 write:bR
 value:Expr
 deriving Inhabited
abbrev aF(x:Stmt):List T:=[T.str x.write.array,T.aa (List.map ag x.write.ak),T.int .i64 x.value.kind,T.int .i64 x.value.num,T.aa (List.map U x.value.index.ao),T.int .i64 x.value.index.const,T.str x.value.read.array,T.aa (List.map ag x.value.read.ak),T.aa (List.map al x.value.aJ)]
theorem k0(x:Stmt):(aF x).length=9:=rfl
structure Part where
 nest:List Loop
 body:List Stmt
 deriving Inhabited
abbrev aI(x:Part):List T:=[T.aa (List.map ax x.nest),T.aa (List.map aF x.body)]
theorem hJ(x:Part):(aI x).length=2:=rfl
structure bX where
 name:List UInt8
 bo:List Int
 deriving Inhabited
abbrev aS(x:bX):List T:=[T.str x.name,T.aa (List.map U x.bo)]
theorem m'(x:bX):(aS x).length=2:=rfl
structure Prog where
 a':List bX
 parts:List Part
 deriving Inhabited
abbrev S9(x:Prog):List T:=[T.aa (List.map aS x.a'),T.aa (List.map aI x.parts)]
structure kr where
 nest:List Loop
 steps:Int
 out:List (List Int)
 deriving Inhabited
structure cv where
 part:Int
 stmt:Int
 cP:List Int
 deriving Inhabited
abbrev cA(x:cv):List T:=[T.int .i64 x.part,T.int .i64 x.stmt,T.aa (List.map U x.cP)]
theorem xg(x:cv):(cA x).length=3:=rfl
structure kj where
 reads:List Int
 write:Int
 deriving Inhabited
abbrev gP(x:kj):List T:=[T.aa (List.map U x.reads),T.int .i64 x.write]
theorem Dd(x:kj):(gP x).length=2:=rfl
structure fa where
 eH:Int
 eJ:Int
 kinds:Int
 deriving Inhabited
abbrev dC(x:fa):List T:=[T.int .i64 x.eH,T.int .i64 x.eJ,T.int .i64 x.kinds]
theorem xS(x:fa):(dC x).length=3:=rfl
structure nW where
 program:Prog
 list:List cv
 reads:List (List Int)
 fY:List Int
 deriving Inhabited
abbrev Rx(x:nW):List T:=[T.aa (List.map aS x.program.a'),T.aa (List.map aI x.program.parts),T.aa (List.map cA x.list),T.aa (List.map (aL U) x.reads),T.aa (List.map U x.fY)]
def xw(n:Nat)(a:List Int)(left:Int):Option Int:=(bif decide (wr (left-(a.length:Int))<0) then some (-1) else some (wr (left-(a.length:Int))))
def wz(n:Nat)(a:aH)(left:Int):Option Int:=((xw n a.ao left).bind λb=>bif decide (b<0) then some (-1) else some b)
def sM(n:Nat)(a:List aH)(left:Int):Option Int:=(bif decide (wr (left-(a.length:Int))<0) then some (-1) else a8 (λe ((c,b):Int×Int)=>bif decide (b<a.length) then(aD a b).bind λh=>(wz n h c).bind λd=>bif decide (d<0) then some (-1) else e (d,wr (b+1)) else some c) n (wr (left-(a.length:Int)),0))
def yz(n:Nat)(a:Loop)(left:Int):Option Int:=((sM n a.bn left).bind λb=>bif decide (b<0) then some (-1) else(sM n a.aG b).bind λc=>bif decide (c<0) then some (-1) else some c)
def x4(n:Nat)(a:List Loop)(left:Int):Option Int:=(bif decide (wr (left-(a.length:Int))<0) then some (-1) else a8 (λe ((c,b):Int×Int)=>bif decide (b<a.length) then(aD a b).bind λh=>(yz n h c).bind λd=>bif decide (d<0) then some (-1) else e (d,wr (b+1)) else some c) n (wr (left-(a.length:Int)),0))
def wA(n:Nat)(a:bR)(left:Int):Option Int:=(bif decide (wr (left-(a.array.length:Int))<0) then some (-1) else(sM n a.ak (wr (left-(a.array.length:Int)))).bind λb=>bif decide (b<0) then some (-1) else some b)
def x5(n:Nat)(self:Expr->Int->Option Int)(a:List Expr)(left:Int):Option Int:=(bif decide (wr (left-(a.length:Int))<0) then some (-1) else a8 (λe ((c,b):Int×Int)=>bif decide (b<a.length) then(aD a b).bind λh=>(self h c).bind λd=>bif decide (d<0) then some (-1) else e (d,wr (b+1)) else some c) n (wr (left-(a.length:Int)),0))
def nN:Nat->Expr->Int->Option Int
 |0,_,_=>none
 |n+1,a,left=>((wz n a.index left).bind λb=>bif decide (b<0) then some (-1) else(wA n a.read b).bind λc=>bif decide (c<0) then some (-1) else(x5 n (nN n) a.aJ c).bind λd=>bif decide (d<0) then some (-1) else some d)
def yv(n:Nat)(a:Stmt)(left:Int):Option Int:=((wA n a.write left).bind λb=>bif decide (b<0) then some (-1) else(nN n a.value b).bind λc=>bif decide (c<0) then some (-1) else some c)
def x3(n:Nat)(a:List Stmt)(left:Int):Option Int:=(bif decide (wr (left-(a.length:Int))<0) then some (-1) else a8 (λe ((c,b):Int×Int)=>bif decide (b<a.length) then(aD a b).bind λh=>(yv n h c).bind λd=>bif decide (d<0) then some (-1) else e (d,wr (b+1)) else some c) n (wr (left-(a.length:Int)),0))
def yy(n:Nat)(a:Part)(left:Int):Option Int:=((x4 n a.nest left).bind λb=>bif decide (b<0) then some (-1) else(x3 n a.body b).bind λc=>bif decide (c<0) then some (-1) else some c)
def DC(n:Nat)(a:List Part)(left:Int):Option Int:=(bif decide (wr (left-(a.length:Int))<0) then some (-1) else a8 (λe ((c,b):Int×Int)=>bif decide (b<a.length) then(aD a b).bind λh=>(yy n h c).bind λd=>bif decide (d<0) then some (-1) else e (d,wr (b+1)) else some c) n (wr (left-(a.length:Int)),0))
def x6(n:Nat)(a:bX)(left:Int):Option Int:=(bif decide (wr (left-(a.name.length:Int))<0) then some (-1) else(xw n a.bo (wr (left-(a.name.length:Int)))).bind λb=>bif decide (b<0) then some (-1) else some b)
def B'(n:Nat)(a:List bX)(left:Int):Option Int:=(bif decide (wr (left-(a.length:Int))<0) then some (-1) else a8 (λe ((c,b):Int×Int)=>bif decide (b<a.length) then(aD a b).bind λh=>(x6 n h c).bind λd=>bif decide (d<0) then some (-1) else e (d,wr (b+1)) else some c) n (wr (left-(a.length:Int)),0))
def v8(n:Nat)(a:Prog)(left:Int):Option Int:=((B' n a.a' left).bind λb=>bif decide (b<0) then some (-1) else(DC n a.parts b).bind λc=>bif decide (c<0) then some (-1) else some c)
def CU(n:Nat)(a:aH)(x:Int)(b:aH)(y:Int):Option aH:=(a8 (λe ((d,c):(List Int)×Int)=>bif decide (c<4) then(aD a.ao c).bind λh=>(aD b.ao c).bind λi=>(app d [wr ((wr (x*h))+(wr (y*i)))]).bind λk=>e (k,wr (c+1)) else some (⟨d,wr ((wr (x*a.const))+(wr (y*b.const)))⟩:aH)) n ([],0))
def Dz(n:Nat)(a:aH)(v:Int)(b:aH):Option aH:=((app [] a.ao).bind λc=>(aD c v).bind λi=>(cR c v 0).bind λd=>(aD a.ao v).bind λe=>(CU n (⟨d,a.const⟩:aH) 1 b e).bind λh=>some h)
def d8(n:Nat)(a:aH):Option aH:=(bif decide ((a.ao.length:Int)=0) then some (⟨[],a.const⟩:aH) else(app [] a.ao).bind λb=>some (⟨b,a.const⟩:aH))
def yC(n:Nat)(a:aH)(v:Int):Option aH:=((d8 n a).bind λb=>(aD a.ao (wr (v+1))).bind λd=>(aD b.ao v).bind λi=>(cR b.ao v d).bind λc=>(aD a.ao v).bind λe=>(aD c (wr (v+1))).bind λk=>(cR c (wr (v+1)) e).bind λh=>some (⟨h,b.const⟩:aH))
def kE(n:Nat)(a:aH)(d v:Int)(b:aH):Option aH:=(bif decide (d=0) then(yC n a v).bind λo=>some o else bif decide (d=1) then(Dz n a v b).bind λp=>some p else a8 (λq ((e,c):(List Int)×Int)=>bif decide (c<4) then aW (fun(h:(List Int))=>q (h,wr (c+1))) (λi=>bif decide (c<v) then(aD a.ao c).bind λr=>(app e [r]).bind λs=>i s else bif decide (c=v) then(app e [0]).bind λk=>i k else(aD a.ao (wr (c-1))).bind λl=>(app e [l]).bind λm=>i m) else some (⟨e,a.const⟩:aH)) n ([],0))
def qS(n:Nat)(a:List aH)(c v:Int)(b:aH):Option (List aH):=(a8 (λh ((e,d):(List aH)×Int)=>bif decide (d<a.length) then(aD a d).bind λi=>(kE n i c v b).bind λk=>(app e [k]).bind λl=>h (l,wr (d+1)) else some e) n ([],0))
def qz(n:Nat)(a:bR)(c v:Int)(b:aH):Option bR:=((qS n a.ak c v b).bind λd=>some (⟨a.array,d⟩:bR))
def np:Nat->Expr->Int->Int->aH->Option Expr
 |0,_,_,_,_=>none
 |n+1,e,a,v,b=>(aW (fun((r,s):(List Int)×Int)=>aW (fun((w,x):(List UInt8)×(List aH))=>a8 (λd ((l,c):(List Expr)×Int)=>bif decide (c<e.aJ.length) then(aD e.aJ c).bind λh=>(np n h a v b).bind λi=>(app l [i]).bind λk=>d (k,wr (c+1)) else some (⟨e.kind,e.num,(⟨r,s⟩:aH),(⟨w,x⟩:bR),l⟩:Expr)) n ([],0)) λm=>bif decide (e.kind=3) then(qz n e.read a v b).bind λo=>m (o.array,o.ak) else m ([],[])) λp=>bif decide (e.kind=2) then(kE n e.index a v b).bind λq=>p (q.ao,q.const) else p ([],0))
def xr(n:Nat)(a:List Stmt)(c v:Int)(b:aH):Option (List Stmt):=(a8 (λi ((e,d):(List Stmt)×Int)=>bif decide (d<a.length) then(aD a d).bind λh=>(qz n h.write c v b).bind λk=>(np n h.value c v b).bind λl=>(app e [(⟨k,l⟩:Stmt)]).bind λm=>i (m,wr (d+1)) else some e) n ([],0))
def tv(n:Nat)(x:Loop)(a v:Int)(b:aH):Option Loop:=((qS n x.bn a v b).bind λc=>(qS n x.aG a v b).bind λd=>some (⟨c,d⟩:Loop))
def w7(n:Nat)(x:Part)(a c v:Int)(b:aH):Option Part:=((sub x.nest 0 (wr (a+1))).bind λi=>(app [] i).bind λk=>(xr n x.body c v b).bind λl=>a8 (λm ((h,d):(List Loop)×Int)=>bif decide (d<x.nest.length) then(aD x.nest d).bind λo=>(tv n o c v b).bind λp=>(app h [p]).bind λe=>m (e,wr (d+1)) else some (⟨h,l⟩:Part)) n (k,wr (a+1)))
def vL(n:Nat)(x:bX):Option bX:=((app [] x.bo).bind λa=>some (⟨x.name,a⟩:bX))
def p8(n:Nat)(a:List bX):Option (List bX):=(a8 (λd ((c,b):(List bX)×Int)=>bif decide (b<a.length) then(aD a b).bind λe=>(vL n e).bind λh=>(app c [h]).bind λi=>d (i,wr (b+1)) else some c) n ([],0))
def sB(n:Nat)(x:aH):Option aH:=((app [] x.ao).bind λa=>some (⟨a,x.const⟩:aH))
def oi(n:Nat)(a:List aH):Option (List aH):=(a8 (λd ((c,b):(List aH)×Int)=>bif decide (b<a.length) then(aD a b).bind λe=>(sB n e).bind λh=>(app c [h]).bind λi=>d (i,wr (b+1)) else some c) n ([],0))
def d9(n:Nat)(x:bR):Option bR:=((oi n x.ak).bind λa=>some (⟨x.array,a⟩:bR))
def Bk(n:Nat)(self:Expr->Option Expr)(a:List Expr):Option (List Expr):=(a8 (λd ((c,b):(List Expr)×Int)=>bif decide (b<a.length) then(aD a b).bind λe=>(self e).bind λh=>(app c [h]).bind λi=>d (i,wr (b+1)) else some c) n ([],0))
def lq:Nat->Expr->Option Expr
 |0,_=>none
 |n+1,x=>((sB n x.index).bind λa=>(d9 n x.read).bind λb=>(Bk n (lq n) x.aJ).bind λc=>some (⟨x.kind,x.num,a,b,c⟩:Expr))
def sI(n:Nat)(x:Stmt):Option Stmt:=((d9 n x.write).bind λa=>(lq n x.value).bind λb=>some (⟨a,b⟩:Stmt))
def p9(n:Nat)(a:List Stmt):Option (List Stmt):=(a8 (λd ((c,b):(List Stmt)×Int)=>bif decide (b<a.length) then(aD a b).bind λe=>(sI n e).bind λh=>(app c [h]).bind λi=>d (i,wr (b+1)) else some c) n ([],0))
def vR(n:Nat)(x:Loop):Option Loop:=((oi n x.bn).bind λa=>(oi n x.aG).bind λb=>some (⟨a,b⟩:Loop))
def qa(n:Nat)(a:List Loop):Option (List Loop):=(a8 (λd ((c,b):(List Loop)×Int)=>bif decide (b<a.length) then(aD a b).bind λe=>(vR n e).bind λh=>(app c [h]).bind λi=>d (i,wr (b+1)) else some c) n ([],0))
def sJ(n:Nat)(x:Part):Option Part:=((qa n x.nest).bind λa=>(p9 n x.body).bind λb=>some (⟨a,b⟩:Part))
def p'(n:Nat)(a:List Part):Option (List Part):=(a8 (λd ((c,b):(List Part)×Int)=>bif decide (b<a.length) then(aD a b).bind λe=>(sJ n e).bind λh=>(app c [h]).bind λi=>d (i,wr (b+1)) else some c) n ([],0))
def qb(n:Nat)(x:Prog):Option Prog:=((p8 n x.a').bind λa=>(p' n x.parts).bind λb=>some (⟨a,b⟩:Prog))
def wC(n:Nat)(a:List bX):Option Bool:=(a8 (λl (d:Int)=>bif decide (d<a.length) then(aD a d).bind λb=>aW (fun(m:Bool)=>bif m then some false else a8 (λo (h:Int)=>bif decide (h<b.bo.length) then aW (fun(i:Bool)=>bif i then some false else o (wr (h+1))) (λk=>(aD b.bo h).bind λe=>bif decide (e<1) then k true else k (decide ((6:Int)<e))) else l (wr (d+1))) n 0) (λc=>bif !decide ((b.name.length:Int)=1) then c true else bif Op.bytesLess b.name [65] then c true else bif(!Op.bytesLess b.name [68]&& !b.name==[68]) then c true else bif decide ((0:Int)<d) then(aD a (wr (d-1))).bind λp=>bif !Op.bytesLess p.name b.name then c true else bif decide ((b.bo.length:Int)<1) then c true else c (decide ((2:Int)<b.bo.length)) else bif decide ((b.bo.length:Int)<1) then c true else c (decide ((2:Int)<b.bo.length))) else some (decide ((a.length:Int)<=4))) n 0)
def qI(n:Nat)(a:aH):Option Int:=(a8 (λe ((c,b):Int×Int)=>bif decide (b<a.ao.length) then aW (fun(h:Int)=>e (h,wr (b+1))) (λd=>(aD a.ao b).bind λi=>bif !decide (i=0) then d (wr (b+1)) else d c) else some c) n (0,0))
def qA(n:Nat)(a b:Int):Option Bool:=(aW (fun(d:Bool)=>some d) λc=>bif decide (wr (0-b)<=a) then c (decide (a<=b)) else c false)
def qi(n:Nat)(a:aH):Option Bool:=(a8 (λd (b:Int)=>bif decide (b<a.ao.length) then(aD a.ao b).bind λe=>(qA n e 9).bind λh=>bif !h then some false else d (wr (b+1)) else aW (fun(i:Bool)=>some i) λc=>bif decide ((a.ao.length:Int)=4) then(qA n a.const 99).bind λk=>c k else c false) n 0)
def tz(n:Nat)(a:List aH)(b:Int):Option Bool:=(a8 (λi (c:Int)=>bif decide (c<a.length) then aW (fun(k:Bool)=>bif k then some false else i (wr (c+1))) (λd=>(aD a c).bind λe=>(qi n e).bind λl=>bif !l then d true else(qI n e).bind λm=>d (decide (b<m))) else aW (fun(o:Bool)=>some o) λh=>bif decide ((1:Int)<=a.length) then h (decide ((a.length:Int)<=2)) else h false) n 0)
def wc(n:Nat)(a:List Loop):Option Bool:=(a8 (λh (b:Int)=>aW (fun(i:Bool)=>bif i then aW (fun(k:Bool)=>bif k then some false else h (wr (b+1))) (λc=>(aD a b).bind λd=>(tz n d.bn b).bind λl=>bif !l then c true else(tz n d.aG b).bind λm=>c (!m)) else some (decide ((a.length:Int)<=4))) λe=>bif decide (b<a.length) then e (decide ((a.length:Int)<=4)) else e false) n 0)
def k'(n:Nat)(a:aH)(b:List Int):Option Int:=(a8 (λh ((d,c):Int×Int)=>aW (fun(i:Bool)=>bif i then(aD a.ao c).bind λk=>(aD b c).bind λl=>h (wr (d+(wr (k*l))),wr (c+1)) else some d) λe=>bif decide (c<b.length) then e (decide (c<a.ao.length)) else e false) n (a.const,0))
def te(n:Nat)(a:Loop)(p:List Int):Option (Int×Int):=((aD a.bn 0).bind λs=>(k' n s p).bind λv=>(aD a.aG 0).bind λw=>(k' n w p).bind λx=>a8 (λy ((i,k):Int×Int)=>bif decide (k<a.bn.length) then aW (fun(l:Int)=>y (l,wr (k+1))) (λr=>(aD a.bn k).bind λz=>(k' n z p).bind λd=>bif decide (i<d) then r d else r i) else a8 (λm ((b,c):Int×Int)=>bif decide (c<a.aG.length) then aW (fun(o:Int)=>m (o,wr (c+1))) (λe=>(aD a.aG c).bind λq=>(k' n q p).bind λh=>bif decide (h<b) then e h else e b) else some (i,b)) n (x,1)) n (v,1))
def nl:Nat->(List Loop)->(List Int)->Int->Option Int
 |0,_,_,_=>none
 |n+1,nest,p,a=>(bif decide ((p.length:Int)=nest.length) then some 1 else(aD nest p.length).bind λi=>(te n i p).bind λe=>a8 (λk ((b,c):Int×Int)=>aW (fun(l:Bool)=>bif l then(app [] p).bind λm=>(app m [c]).bind λo=>(nl n nest o (wr (a-b))).bind λd=>k (wr (b+d),wr (c+1)) else some b) λh=>bif decide (c<e.2) then h (decide (b<=a)) else h false) n (1,e.1))
def ma:Nat->(List (List Int))->(List Loop)->(List Int)->Option (List (List Int))
 |0,_,_,_=>none
 |n+1,out,nest,p=>(bif decide ((p.length:Int)=nest.length) then(app [] p).bind λl=>(app out [l]).bind λm=>some m else(aD nest p.length).bind λo=>(te n o p).bind λi=>a8 (λq ((a,b):(List (List Int))×Int)=>aW (fun(c:Bool)=>bif c then(app [] p).bind λd=>(app d [b]).bind λe=>(ma n a nest e).bind λh=>q (h,wr (b+1)) else some a) λk=>bif decide (b<i.2) then k (decide ((a.length:Int)<=120)) else k false) n (out,i.1))
def vS(n:Nat)(a:List Loop):Option ((List (List Int))×Bool):=(aW (fun(d:Bool)=>bif d then some ([],false) else(ma n [] a []).bind λb=>bif decide ((120:Int)<b.length) then some ([],false) else some (b,true)) λc=>(wc n a).bind λe=>bif !e then c true else(nl n a [] 1200).bind λh=>c (decide ((1200:Int)<h)))
def sW(n:Nat)(a:bR)(b:Int):Option Bool:=(a8 (λi (d:Int)=>bif decide (d<a.ak.length) then aW (fun(k:Bool)=>bif k then some false else i (wr (d+1))) (λe=>(aD a.ak d).bind λh=>(qi n h).bind λl=>bif !l then e true else(qI n h).bind λm=>e (decide (b<m))) else aW (fun(o:Bool)=>some o) λc=>bif decide ((a.array.length:Int)=1) then bif !Op.bytesLess a.array [65] then bif(Op.bytesLess a.array [68]||a.array==[68]) then bif decide ((1:Int)<=a.ak.length) then c (decide ((a.ak.length:Int)<=2)) else c false else c false else c false else c false) n 0)
def xM(n:Nat)(a:Int):Option Int:=(aW (fun(d:Bool)=>bif d then some 0 else aW (fun(e:Bool)=>bif e then some 2 else some (-1)) λb=>bif decide (a=4) then b (decide (a=4)) else bif decide (a=5) then b (decide (a=5)) else b (decide (a=6))) λc=>bif decide (a=1) then c (decide (a=1)) else bif decide (a=2) then c (decide (a=2)) else c (decide (a=3)))
def qH(n:Nat)(a:bR):Option Bool:=(aW (fun(c:Bool)=>some c) λb=>bif decide (a.array=[]) then b (decide ((a.ak.length:Int)=0)) else b false)
def qT(n:Nat)(a:aH):Option Bool:=(aW (fun(c:Bool)=>some c) λb=>bif decide ((a.ao.length:Int)=0) then b (decide (a.const=0)) else b false)
def uf(n:Nat)(e:Expr)(a:Int):Option Bool:=(bif decide (e.kind=2) then aW (fun(q:Bool)=>some q) (λd=>bif decide (e.num=0) then(qH n e.read).bind λr=>bif r then(qi n e.index).bind λs=>bif s then(qI n e.index).bind λv=>d (decide (v<=a)) else d false else d false else d false) else bif decide (e.kind=3) then aW (fun(w:Bool)=>some w) (λh=>bif decide (e.num=0) then(qT n e.index).bind λx=>bif x then(sW n e.read a).bind λy=>h y else h false else h false) else bif decide (e.kind=1) then aW (fun(i:Bool)=>some i) (λb=>bif decide ((0:Int)<=e.num) then bif decide (e.num<=99) then(qT n e.index).bind λk=>bif k then(qH n e.read).bind λl=>b l else b false else b false else b false) else aW (fun(m:Bool)=>some m) λc=>bif decide (e.num=0) then(qT n e.index).bind λo=>bif o then(qH n e.read).bind λp=>c p else c false else c false)
def nn:Nat->Expr->Int->Int->Option Bool
 |0,_,_,_=>none
 |n+1,e,b,a=>(aW (fun(h:Bool)=>bif h then some false else a8 (λi (c:Int)=>bif decide (c<e.aJ.length) then(aD e.aJ c).bind λk=>(nn n k b (wr (a-1))).bind λl=>bif !l then some false else i (wr (c+1)) else some true) n 0) λd=>bif decide (a<1) then d true else(xM n e.kind).bind λm=>bif !decide (m=e.aJ.length) then d true else(uf n e b).bind λo=>d (!o))
def o9:Nat->Expr->Int->Option Int
 |0,_,_=>none
 |n+1,e,a=>(a8 (λh ((c,b):Int×Int)=>aW (fun(i:Bool)=>bif i then(aD e.aJ b).bind λk=>(o9 n k (wr (a-1))).bind λl=>h (wr (c+l),wr (b+1)) else some c) λd=>bif decide (b<e.aJ.length) then d (decide ((0:Int)<a)) else d false) n (1,0))
def wb(n:Nat)(s:Stmt)(a:Int):Option Bool:=(aW (fun(c:Bool)=>bif c then some false else(o9 n s.value 5).bind λd=>some (decide (d<=12))) λb=>bif decide (a<0) then b true else bif decide ((4:Int)<a) then b true else(sW n s.write a).bind λe=>bif !e then b true else(nn n s.value a 5).bind λh=>b (!h))
def qf(n:Nat)(a:bR):Option bR:=(a8 (λd ((c,b):(List aH)×Int)=>bif decide (b<a.ak.length) then(aD a.ak b).bind λe=>(d8 n e).bind λh=>(app c [h]).bind λi=>d (i,wr (b+1)) else some (⟨a.array,c⟩:bR)) n ([],0))
def o':Nat->(List bR)->Expr->Option (List bR)
 |0,_,_=>none
 |n+1,out,e=>(aW (fun(i:(List bR))=>a8 (λk ((d,a):(List bR)×Int)=>bif decide (a<e.aJ.length) then(aD e.aJ a).bind λb=>(o' n d b).bind λc=>k (c,wr (a+1)) else some d) n (i,0)) λh=>bif decide (e.kind=3) then(qf n e.read).bind λl=>(app out [l]).bind λm=>h m else h out)
def xJ(n:Nat)(a:bX):Option Int:=(a8 (λd ((c,b):Int×Int)=>bif decide (b<a.bo.length) then(aD a.bo b).bind λe=>d (wr (c*e),wr (b+1)) else some c) n (1,0))
def tx(n:Nat)(b:List bX)(a:bR)(c:List Int):Option Int:=(a8 (λr ((p,k):Int×Int)=>bif decide (k<b.length) then(aD b k).bind λe=>bif !decide (e.name=a.array) then(xJ n e).bind λs=>r (wr (p+s),wr (k+1)) else a8 (λv ((q,h):Int×Int)=>bif decide (h<a.ak.length) then bif !decide ((a.ak.length:Int)=e.bo.length) then some (-1) else(aD a.ak h).bind λw=>(k' n w c).bind λd=>aW (fun(l:Bool)=>bif l then some (-1) else(aD e.bo h).bind λm=>v (wr ((wr (q*m))+d),wr (h+1))) (λi=>bif decide (d<0) then i true else(aD e.bo h).bind λo=>i (decide (o<=d))) else some (wr (p+q))) n (0,0) else some (-1)) n (0,0))
def qG(n:Nat)(b:List bX)(s:Stmt)(a:List Int):Option ((List Int)×Int×Bool):=((o' n [] s.value).bind λd=>a8 (λk ((e,c):(List Int)×Int)=>bif decide (c<d.length) then(aD d c).bind λl=>(tx n b l a).bind λh=>bif decide (h<0) then some ([],0,false) else(app e [h]).bind λm=>k (m,wr (c+1)) else(tx n b s.write a).bind λi=>bif decide (i<0) then some ([],0,false) else some (e,i,true)) n ([],0))
def xb(n:Nat)(p:List Int):Option Bool:=(a8 (λb (a:Int)=>bif decide (a<p.length) then(aD p a).bind λc=>(qA n c 9999).bind λd=>bif !d then some false else b (wr (a+1)) else some (decide ((p.length:Int)<=4))) n 0)
def xK(n:Nat)(b:List bX)(a:Part):Option (Int×Bool):=((vS n a.nest).bind λe=>aW (fun(q:Bool)=>bif q then some (0,false) else a8 (λr (h:Int)=>bif decide (h<a.body.length) then(aD a.body h).bind λp=>(wb n p a.nest.length).bind λs=>bif !s then some (0,false) else a8 (λv (i:Int)=>bif decide (i<e.1.length) then(aD e.1 i).bind λc=>(qG n b p c).bind λk=>aW (fun(l:Bool)=>bif l then some (0,false) else v (wr (i+1))) (λd=>bif !k.2.2 then d true else(xb n c).bind λm=>d (!m)) else r (wr (h+1))) n 0 else some (wr ((e.1.length:Int)*(a.body.length:Int)),true)) n 0) λo=>bif !e.2 then o true else bif decide ((a.body.length:Int)<1) then o true else o (decide ((4:Int)<a.body.length)))
def sC(n:Nat)(p:Prog):Option Bool:=(aW (fun(e:Bool)=>bif e then some false else a8 (λh ((b,a):Int×Int)=>bif decide (a<p.parts.length) then(aD p.parts a).bind λi=>(xK n p.a' i).bind λc=>bif !c.2 then some false else h (wr (b+c.1),wr (a+1)) else some (decide (b<=120))) n (0,0)) λd=>(wC n p.a').bind λk=>bif !k then d true else d (decide ((4:Int)<p.parts.length)))
def o3(n:Nat)(p:Prog)(a b:Int):Option Bool:=(aW (fun(d:Bool)=>some d) λc=>(sC n p).bind λe=>bif e then bif decide ((0:Int)<=a) then bif decide (a<p.parts.length) then bif decide ((0:Int)<=b) then(aD p.parts a).bind λh=>c (decide (b<h.nest.length)) else c false else c false else c false else c false)
def tA(n:Nat)(a:List Loop):Option (List Loop):=(a8 (λw ((s,i):(List Loop)×Int)=>bif decide (i<a.length) then a8 (λx ((v,k):(List aH)×Int)=>(aD a i).bind λh=>bif decide (k<h.bn.length) then(aD h.bn k).bind λc=>(app [] c.ao).bind λl=>(app v [(⟨l,c.const⟩:aH)]).bind λm=>x (m,wr (k+1)) else a8 (λo ((d,b):(List aH)×Int)=>bif decide (b<h.aG.length) then(aD h.aG b).bind λe=>(app [] e.ao).bind λp=>(app d [(⟨p,e.const⟩:aH)]).bind λq=>o (q,wr (b+1)) else(app s [(⟨v,d⟩:Loop)]).bind λr=>w (r,wr (i+1))) n ([],0)) n ([],0) else some s) n ([],0))
def nm:Nat->Expr->Option Expr
 |0,_=>none
 |n+1,e=>((d8 n e.index).bind λc=>(qf n e.read).bind λd=>a8 (λh ((b,a):(List Expr)×Int)=>bif decide (a<e.aJ.length) then(aD e.aJ a).bind λi=>(nm n i).bind λk=>(app b [k]).bind λl=>h (l,wr (a+1)) else some (⟨e.kind,e.num,c,d,b⟩:Expr)) n ([],0))
def qU(n:Nat)(s:Stmt):Option Stmt:=((qf n s.write).bind λa=>(nm n s.value).bind λb=>some (⟨a,b⟩:Stmt))
def tw(n:Nat)(p:Prog):Option Prog:=(a8 (λw ((r,d):(List bX)×Int)=>bif decide (d<p.a'.length) then(aD p.a' d).bind λs=>(app [] s.bo).bind λx=>(app r [(⟨s.name,x⟩:bX)]).bind λy=>w (y,wr (d+1)) else a8 (λe ((v,h):(List Part)×Int)=>bif decide (h<p.parts.length) then(aD p.parts h).bind λa=>(tA n a.nest).bind λi=>a8 (λk ((c,b):(List Stmt)×Int)=>bif decide (b<a.body.length) then(aD a.body b).bind λl=>(qU n l).bind λm=>(app c [m]).bind λo=>k (o,wr (b+1)) else(app v [(⟨i,c⟩:Part)]).bind λq=>e (q,wr (h+1))) n ([],0) else some (⟨r,v⟩:Prog)) n ([],0)) n ([],0))
def xD(n:Nat)(p:Prog)(a c:Int)(b:List Part):Option (Prog×Bool):=((tw n p).bind λd=>(sub d.parts 0 a).bind λh=>(app [] h).bind λi=>(app i b).bind λk=>(sub d.parts (wr (a+c)) (d.parts.length:Int)).bind λl=>(app k l).bind λe=>(sC n (⟨d.a',e⟩:Prog)).bind λm=>bif !m then some ((⟨[],[]⟩:Prog),false) else(tw n (⟨d.a',e⟩:Prog)).bind λo=>some (o,true))
def tr(n:Nat)(a:List Int):Option (List Int):=((mk a.length 0).bind λd=>a8 (λe ((c,b):(List Int)×Int)=>bif decide (b<a.length) then(aD a b).bind λh=>(aD c b).bind λk=>(cR c b h).bind λi=>e (i,wr (b+1)) else some c) n (d,0))
def w5(n:Nat)(a:bX):Option bX:=((tr n a.bo).bind λb=>some (⟨a.name,b⟩:bX))
def B9(n:Nat)(a:List bX):Option (List bX):=((mk a.length (⟨[],[]⟩:bX)).bind λd=>a8 (λe ((c,b):(List bX)×Int)=>bif decide (b<a.length) then(aD a b).bind λh=>(w5 n h).bind λi=>(aD c b).bind λl=>(cR c b i).bind λk=>e (k,wr (b+1)) else some c) n (d,0))
def sS(n:Nat)(a:aH):Option aH:=((tr n a.ao).bind λb=>some (⟨b,a.const⟩:aH))
def sL(n:Nat)(a:List aH):Option (List aH):=((mk a.length (⟨[],0⟩:aH)).bind λd=>a8 (λe ((c,b):(List aH)×Int)=>bif decide (b<a.length) then(aD a b).bind λh=>(sS n h).bind λi=>(aD c b).bind λl=>(cR c b i).bind λk=>e (k,wr (b+1)) else some c) n (d,0))
def sT(n:Nat)(a:bR):Option bR:=((sL n a.ak).bind λb=>some (⟨a.array,b⟩:bR))
def x2(n:Nat)(self:Expr->Option Expr)(a:List Expr):Option (List Expr):=((mk a.length (⟨0,0,(⟨[],0⟩:aH),(⟨[],[]⟩:bR),[]⟩:Expr)).bind λd=>a8 (λe ((c,b):(List Expr)×Int)=>bif decide (b<a.length) then(aD a b).bind λh=>(self h).bind λi=>(aD c b).bind λl=>(cR c b i).bind λk=>e (k,wr (b+1)) else some c) n (d,0))
def mj:Nat->Expr->Option Expr
 |0,_=>none
 |n+1,a=>((sS n a.index).bind λb=>(sT n a.read).bind λc=>(x2 n (mj n) a.aJ).bind λd=>some (⟨a.kind,a.num,b,c,d⟩:Expr))
def xt(n:Nat)(a:Stmt):Option Stmt:=((sT n a.write).bind λb=>(mj n a.value).bind λc=>some (⟨b,c⟩:Stmt))
def xZ(n:Nat)(a:List Stmt):Option (List Stmt):=((mk a.length (⟨(⟨[],[]⟩:bR),(⟨0,0,(⟨[],0⟩:aH),(⟨[],[]⟩:bR),[]⟩:Expr)⟩:Stmt)).bind λd=>a8 (λe ((c,b):(List Stmt)×Int)=>bif decide (b<a.length) then(aD a b).bind λh=>(xt n h).bind λi=>(aD c b).bind λl=>(cR c b i).bind λk=>e (k,wr (b+1)) else some c) n (d,0))
def xv(n:Nat)(a:Loop):Option Loop:=((sL n a.bn).bind λb=>(sL n a.aG).bind λc=>some (⟨b,c⟩:Loop))
def x1(n:Nat)(a:List Loop):Option (List Loop):=((mk a.length (⟨[],[]⟩:Loop)).bind λd=>a8 (λe ((c,b):(List Loop)×Int)=>bif decide (b<a.length) then(aD a b).bind λh=>(xv n h).bind λi=>(aD c b).bind λl=>(cR c b i).bind λk=>e (k,wr (b+1)) else some c) n (d,0))
def xu(n:Nat)(a:Part):Option Part:=((x1 n a.nest).bind λb=>(xZ n a.body).bind λc=>some (⟨b,c⟩:Part))
def x0(n:Nat)(a:List Part):Option (List Part):=((mk a.length (⟨[],[]⟩:Part)).bind λd=>a8 (λe ((c,b):(List Part)×Int)=>bif decide (b<a.length) then(aD a b).bind λh=>(xu n h).bind λi=>(aD c b).bind λl=>(cR c b i).bind λk=>e (k,wr (b+1)) else some c) n (d,0))
def kt(n:Nat)(a:Prog):Option Prog:=((B9 n a.a').bind λb=>(x0 n a.parts).bind λc=>some (⟨b,c⟩:Prog))
def fI(n:Nat)(a low high:Int):Option Bool:=(aW (fun(c:Bool)=>some c) λb=>bif decide (low<=a) then b (decide (a<=high)) else b false)
def mG(n:Nat)(p:Prog)(a:Int):Option Bool:=((fI n a 0 (wr ((p.parts.length:Int)-1))).bind λb=>some b)
def Bn(n:Nat)(p:Prog)(a b:Int):Option Bool:=(aW (fun(d:Bool)=>some d) λc=>(mG n p a).bind λe=>bif e then(aD p.parts a).bind λh=>(fI n b 0 (wr ((h.nest.length:Int)-1))).bind λi=>c i else c false)
def kv(n:Nat)(a:aH):Option aH:=((ho a.ao).bind λb=>some (⟨b,a.const⟩:aH))
def mK(n:Nat)(a:List aH):Option (List aH):=(a8 (λd ((c,b):(List aH)×Int)=>bif decide (b<a.length) then(aD a b).bind λe=>(kv n e).bind λh=>(app c [h]).bind λi=>d (i,wr (b+1)) else some c) n ([],0))
def th(n:Nat)(a:List Loop):Option (List Loop):=(a8 (λe ((c,b):(List Loop)×Int)=>bif decide (b<a.length) then(aD a b).bind λd=>(mK n d.bn).bind λh=>(mK n d.aG).bind λi=>(app c [(⟨h,i⟩:Loop)]).bind λk=>e (k,wr (b+1)) else some c) n ([],0))
def oN(n:Nat)(a:bR)(change:aH->Option aH):Option bR:=(a8 (λd ((c,b):(List aH)×Int)=>bif decide (b<a.ak.length) then(aD a.ak b).bind λe=>(change e).bind λh=>(app c [h]).bind λi=>d (i,wr (b+1)) else some (⟨a.array,c⟩:bR)) n ([],0))
def jl:Nat->Expr->(aH->Option aH)->Option Expr
 |0,_,_=>none
 |n+1,e,change=>(aW (fun((o,p,q,r):(List Int)×Int×(List UInt8)×(List aH))=>a8 (λa ((k,b):(List Expr)×Int)=>bif decide (b<e.aJ.length) then(aD e.aJ b).bind λc=>(jl n c change).bind λd=>(app k [d]).bind λh=>a (h,wr (b+1)) else some (⟨e.kind,e.num,(⟨o,p⟩:aH),(⟨q,r⟩:bR),k⟩:Expr)) n ([],0)) λi=>bif decide (e.kind=2) then(change e.index).bind λl=>i (l.ao,l.const,[],[]) else bif decide (e.kind=3) then(oN n e.read change).bind λm=>i ([],0,m.array,m.ak) else i ([],0,[],[]))
def i8(n:Nat)(s:Stmt)(change:aH->Option aH):Option Stmt:=((oN n s.write change).bind λa=>(jl n s.value change).bind λb=>some (⟨a,b⟩:Stmt))
def tg(n:Nat)(s:Stmt):Option Stmt:=((i8 n s λa=>kv n a).bind λb=>some b)
def qK(n:Nat)(p:Part):Option Part:=((th n p.nest).bind λc=>a8 (λd ((b,a):(List Stmt)×Int)=>bif decide (a<p.body.length) then(aD p.body a).bind λe=>(tg n e).bind λh=>(app b [h]).bind λi=>d (i,wr (a+1)) else some (⟨c,b⟩:Part)) n ([],0))
def qj(n:Nat)(p:Prog):Option Prog:=(a8 (λm ((i,a):(List bX)×Int)=>bif decide (a<p.a'.length) then(aD p.a' a).bind λk=>(ho k.bo).bind λo=>(app i [(⟨k.name,o⟩:bX)]).bind λq=>m (q,wr (a+1)) else a8 (λb ((l,c):(List Part)×Int)=>bif decide (c<p.parts.length) then(aD p.parts c).bind λd=>(qK n d).bind λe=>(app l [e]).bind λh=>b (h,wr (c+1)) else some (⟨i,l⟩:Prog)) n ([],0)) n ([],0))
def mM(n:Nat)(a:Int):Option Bool:=((fI n a 1 6).bind λb=>some (!b))
def tj(n:Nat)(s:List UInt8):Option Bool:=(aW (fun(b:Bool)=>some b) λa=>bif decide ((s.length:Int)=1) then(sR [65,66,67,68] s).bind λc=>a c else a false)
def r9(n:Nat)(s:List Int)(f:Int->Option Bool):Option Int:=(a8 (λb (a:Int)=>bif decide (a<s.length) then(aD s a).bind λc=>(f c).bind λd=>bif d then some a else b (wr (a+1)) else some (-1)) n 0)
def lM(n:Nat)(s:List Int)(f:Int->Option Bool):Option Bool:=((r9 n s f).bind λa=>some (decide ((0:Int)<=a)))
def wy(n:Nat)(a:List bX):Option Bool:=(a8 (λk (d:Int)=>bif decide (d<a.length) then(aD a d).bind λb=>aW (fun(e:Bool)=>bif e then some false else k (wr (d+1))) (λc=>(tj n b.name).bind λl=>bif !l then c true else bif decide ((0:Int)<d) then(aD a (wr (d-1))).bind λm=>bif !Op.bytesLess m.name b.name then c true else(fI n b.bo.length 1 2).bind λo=>bif !o then c true else(lM n b.bo λh=>mM n h).bind λi=>c i else(fI n b.bo.length 1 2).bind λp=>bif !p then c true else(lM n b.bo λh=>mM n h).bind λq=>c q) else some (decide ((a.length:Int)<=4))) n 0)
def Bg(n:Nat)(s:List aH)(f:aH->Option Bool):Option Int:=(a8 (λb (a:Int)=>bif decide (a<s.length) then(aD s a).bind λc=>(f c).bind λd=>bif d then some a else b (wr (a+1)) else some (-1)) n 0)
def oh(n:Nat)(s:List aH)(f:aH->Option Bool):Option Bool:=((Bg n s f).bind λa=>some (decide ((0:Int)<=a)))
def qg(n:Nat)(a:aH):Option Int:=(a8 (λd (b:Int)=>aW (fun(e:Bool)=>bif e then d (wr (b-1)) else some b) λc=>bif decide ((0:Int)<b) then(aD a.ao (wr (b-1))).bind λh=>c (decide (h=0)) else c false) n a.ao.length)
def yj(n:Nat)(a:Int):Option Bool:=((fI n a (-99) 99).bind λb=>some b)
def r'(n:Nat)(c:Int):Option Bool:=((fI n c (-9) 9).bind λa=>some (!a))
def ql(n:Nat)(a:aH):Option Bool:=(aW (fun(c:Bool)=>some c) λb=>bif decide ((a.ao.length:Int)=4) then(yj n a.const).bind λd=>bif d then(lM n a.ao λe=>r' n e).bind λh=>b (!h) else b false else b false)
def qt(n:Nat)(a:aH)(b:Int):Option Bool:=(aW (fun(d:Bool)=>some d) λc=>(ql n a).bind λe=>bif !e then c true else(qg n a).bind λh=>c (decide (b<h)))
def s4(n:Nat)(a:List aH)(b:Int):Option Bool:=(aW (fun(d:Bool)=>some d) λc=>(fI n a.length 1 2).bind λe=>bif e then(oh n a λh=>qt n h b).bind λi=>c (!i) else c false)
def wm(n:Nat)(a:List Loop):Option Bool:=(a8 (λe (b:Int)=>bif decide (b<a.length) then(aD a b).bind λc=>aW (fun(h:Bool)=>bif h then some false else e (wr (b+1))) (λd=>(s4 n c.bn b).bind λi=>bif !i then d true else(s4 n c.aG b).bind λk=>d (!k)) else some (decide ((a.length:Int)<=4))) n 0)
def kY(n:Nat)(a:aH)(b:List Int):Option Int:=(a8 (λe ((d,c):Int×Int)=>bif decide (c<b.length) then(aD b c).bind λh=>(aD a.ao c).bind λi=>e (wr (d+(wr (i*h))),wr (c+1)) else some d) n (a.const,0))
def wq(n:Nat)(l:Loop)(a:List Int):Option (Int×Int):=((aD l.bn 0).bind λm=>(kY n m a).bind λo=>(aD l.aG 0).bind λp=>(kY n p a).bind λq=>a8 (λr ((k,d):Int×Int)=>bif decide (d<l.bn.length) then(aD l.bn d).bind λs=>(kY n s a).bind λv=>r (max k v,wr (d+1)) else a8 (λe ((c,b):Int×Int)=>bif decide (b<l.aG.length) then(aD l.aG b).bind λh=>(kY n h a).bind λi=>e (min c i,wr (b+1)) else some (k,c)) n (q,0)) n (o,0))
def mU:Nat->kr->(List Int)->Option (Bool×kr)
 |0,_,_=>none
 |n+1,a,b=>(bif decide ((b.length:Int)=a.nest.length) then(ho b).bind λx=>(app a.out [x]).bind λv=>some (decide ((v.length:Int)<=120),(⟨a.nest,a.steps,v⟩:kr)) else(aD a.nest b.length).bind λy=>(wq n y b).bind λw=>a8 (λl ((m,k,o,p):(List Loop)×Int×(List (List Int))×Int)=>bif decide (p<w.2) then aW (fun((d,e,h,q):(List Loop)×Int×(List (List Int))×Bool)=>bif q then some (false,(⟨d,e,h⟩:kr)) else l (d,e,h,wr (p+1))) (λi=>bif decide ((1200:Int)<wr ((wr (k+1))+1)) then i (m,wr (k+1),o,true) else(ho b).bind λr=>(app r [p]).bind λs=>(mU n (⟨m,wr (k+1),o⟩:kr) s).bind λc=>i (c.2.nest,c.2.steps,c.2.out, !c.1)) else some (true,(⟨m,k,o⟩:kr))) n (a.nest,a.steps,a.out,w.1))
def m8(n:Nat)(a:List Loop):Option ((List (List Int))×Bool):=((wm n a).bind λc=>bif !c then some ([],false) else(mU n (⟨a,0,[]⟩:kr) []).bind λb=>bif !b.1 then some ([],false) else some (b.2.out,true))
def Bm(n:Nat)(s:List Stmt)(f:Stmt->Option Bool):Option Int:=(a8 (λb (a:Int)=>bif decide (a<s.length) then(aD s a).bind λc=>(f c).bind λd=>bif d then some a else b (wr (a+1)) else some (-1)) n 0)
def vk(n:Nat)(s:List Stmt)(f:Stmt->Option Bool):Option Bool:=((Bm n s f).bind λa=>some (decide ((0:Int)<=a)))
def sK(n:Nat)(s:aH)(a:Int):Option Bool:=(aW (fun(c:Bool)=>some c) λb=>(ql n s).bind λd=>bif !d then b true else(qg n s).bind λe=>b (decide (a<e)))
def s6(n:Nat)(a:bR)(b:Int):Option Bool:=(aW (fun(d:Bool)=>some d) λc=>(tj n a.array).bind λe=>bif e then(fI n a.ak.length 1 2).bind λh=>bif h then(oh n a.ak λi=>sK n i b).bind λk=>c (!k) else c false else c false)
def s3(n:Nat)(a:aH):Option Bool:=(aW (fun(c:Bool)=>some c) λb=>bif decide ((a.ao.length:Int)=0) then b (decide (a.const=0)) else b false)
def oQ(n:Nat)(a:bR):Option Bool:=(aW (fun(c:Bool)=>some c) λb=>bif decide (a.array=[]) then b (decide ((a.ak.length:Int)=0)) else b false)
def uS(n:Nat)(a:Int):Option Bool:=((fI n a 4 6).bind λb=>some b)
def lZ:Nat->Expr->Int->Int->Int->Option (Bool×Int)
 |0,_,_,_,_=>none
 |n+1,e,a,b,count=>(aW (fun(H:Bool)=>bif H then some (false,wr (count+1)) else aW (fun(p:Bool)=>bif p then some (false,wr (count+1)) else bif decide (e.kind=1) then aW (fun(q:Bool)=>some (q,wr (count+1))) (λi=>(fI n e.num 0 99).bind λr=>bif r then i (decide ((e.aJ.length:Int)=0)) else i false) else bif decide (e.kind=2) then aW (fun(s:Bool)=>some (s,wr (count+1))) (λd=>(ql n e.index).bind λv=>bif v then(qg n e.index).bind λw=>bif decide (w<=a) then d (decide ((e.aJ.length:Int)=0)) else d false else d false) else bif decide (e.kind=3) then aW (fun(x:Bool)=>some (x,wr (count+1))) (λk=>(s6 n e.read a).bind λy=>bif y then k (decide ((e.aJ.length:Int)=0)) else k false) else aW (fun(z:Bool)=>bif z then some (false,wr (count+1)) else aW (fun((A,B):Int×Bool)=>some (B,A)) λl=>(aD e.aJ 0).bind λC=>(lZ n C a (wr (b+1)) (wr (count+1))).bind λh=>bif h.1 then(aD e.aJ 1).bind λD=>(lZ n D a (wr (b+1)) h.2).bind λm=>l (m.2,m.1) else l (h.2,false)) λo=>(uS n e.kind).bind λF=>bif !F then o true else o (!decide ((e.aJ.length:Int)=2))) λc=>bif !decide (e.kind=1) then bif !decide (e.num=0) then c true else bif !decide (e.kind=2) then(s3 n e.index).bind λK=>bif !K then c true else bif !decide (e.kind=3) then(oQ n e.read).bind λL=>c (!L) else c false else bif !decide (e.kind=3) then(oQ n e.read).bind λQ=>c (!Q) else c false else bif !decide (e.kind=2) then(s3 n e.index).bind λR=>bif !R then c true else bif !decide (e.kind=3) then(oQ n e.read).bind λW=>c (!W) else c false else bif !decide (e.kind=3) then(oQ n e.read).bind λX=>c (!X) else c false) λG=>bif decide ((12:Int)<wr (count+1)) then G true else G (decide ((5:Int)<b)))
def wk(n:Nat)(s:Stmt)(a:Int):Option Bool:=(aW (fun((i,d):Int×Bool)=>some d) λb=>(fI n a 0 4).bind λe=>bif e then(s6 n s.write a).bind λh=>bif h then(lZ n s.value a 1 0).bind λc=>b (c.2,c.1) else b (0,false) else b (0,false))
def r0(n:Nat)(s:Stmt)(a:Part):Option Bool:=((wk n s a.nest.length).bind λb=>some (!b))
def sP(n:Nat)(a:Int):Option Bool:=((fI n a (-9999) 9999).bind λb=>some (!b))
def xj(n:Nat)(a:List Int):Option Bool:=(aW (fun(c:Bool)=>some c) λb=>bif decide ((a.length:Int)<=4) then(lM n a λd=>sP n d).bind λe=>b (!e) else b false)
def Bh(n:Nat)(s:List bR)(f:bR->Option Bool):Option Int:=(a8 (λb (a:Int)=>bif decide (a<s.length) then(aD s a).bind λc=>(f c).bind λd=>bif d then some a else b (wr (a+1)) else some (-1)) n 0)
def vd(n:Nat)(s:List bR)(f:bR->Option Bool):Option Bool:=((Bh n s f).bind λa=>some (decide ((0:Int)<=a)))
def mT:Nat->Expr->Option (List bR)
 |0,_=>none
 |n+1,e=>(bif decide (e.kind=3) then some [e.read] else a8 (λc ((b,a):(List bR)×Int)=>bif decide (a<e.aJ.length) then(aD e.aJ a).bind λd=>(mT n d).bind λh=>(app b h).bind λi=>c (i,wr (a+1)) else some b) n ([],0))
def BH(n:Nat)(a:bX):Option Int:=(a8 (λd ((c,b):Int×Int)=>bif decide (b<a.bo.length) then(aD a.bo b).bind λe=>d (wr (c*e),wr (b+1)) else some c) n (1,0))
def oo(n:Nat)(p:Prog)(a:bR)(b:List Int):Option Int:=(a8 (λo ((l,i):Int×Int)=>bif decide (i<p.a'.length) then(aD p.a' i).bind λe=>bif !decide (e.name=a.array) then(BH n e).bind λq=>o (wr (l+q),wr (i+1)) else bif !decide ((a.ak.length:Int)=e.bo.length) then some (-1) else a8 (λr ((m,h):Int×Int)=>bif decide (h<a.ak.length) then(aD a.ak h).bind λs=>(kY n s b).bind λc=>(aD e.bo h).bind λd=>(fI n c 0 (wr (d-1))).bind λk=>bif !k then some (-1) else r (wr ((wr (m*d))+c),wr (h+1)) else some (wr (l+m))) n (0,0) else some (-1)) n (0,0))
def r3(n:Nat)(a:bR)(b:Prog)(c:List Int):Option Bool:=((oo n b a c).bind λd=>some (decide (d<0)))
def vC(n:Nat)(p:Prog)(s:Stmt)(a:List Int):Option Bool:=(aW (fun(c:Bool)=>some c) λb=>(oo n p s.write a).bind λd=>bif decide ((0:Int)<=d) then(mT n s.value).bind λe=>(vd n e λh=>r3 n h p a).bind λi=>b (!i) else b false)
def p3(n:Nat)(p:Prog):Option ((List cv)×Bool):=(aW (fun(C:Bool)=>bif C then some ([],false) else a8 (λD ((l,k):(List cv)×Int)=>bif decide (k<p.parts.length) then(aD p.parts k).bind λe=>(m8 n e.nest).bind λm=>aW (fun(o:Bool)=>bif o then some ([],false) else a8 (λq ((h,b):(List cv)×Int)=>bif decide (b<m.1.length) then(aD m.1 b).bind λc=>(xj n c).bind λr=>bif !r then some ([],false) else a8 (λs ((i,a):(List cv)×Int)=>bif decide (a<e.body.length) then(aD e.body a).bind λv=>(vC n p v c).bind λw=>bif !w then some ([],false) else(ho c).bind λx=>(app i [(⟨k,a,x⟩:cv)]).bind λy=>s (y,wr (a+1)) else q (i,wr (b+1))) n (h,0) else D (h,wr (k+1))) n (l,0)) (λd=>bif !m.2 then d true else(fI n e.body.length 1 4).bind λz=>bif !z then d true else(vk n e.body λF=>r0 n F e).bind λA=>d A) else some (l,decide ((l.length:Int)<=120))) n ([],0)) λB=>(wy n p.a').bind λG=>bif !G then B true else B (decide ((4:Int)<p.parts.length)))
def sE(n:Nat)(p:Prog):Option Bool:=((p3 n p).bind λa=>some a.2)
def m7(n:Nat)(p:Prog)(a b:Int):Option (Prog×Bool):=(aW (fun(e:Bool)=>bif e then some ((⟨[],[]⟩:Prog),false) else(qj n p).bind λd=>(aD d.parts a).bind λl=>some (d,true)) λc=>(sE n p).bind λh=>bif !h then c true else(mG n p a).bind λi=>bif !i then c true else bif !decide (b=(-1)) then(Bn n p a b).bind λk=>c (!k) else c false)
def vH(n:Nat)(l:Loop)(f:aH->Option aH):Option Loop:=(a8 (λe ((x,i):Loop×Int)=>(eo l.bn x.bn).bind λh=>(eo l.aG x.aG).bind λm=>bif decide (i<2) then bif decide (i=0) then a8 (λa ((y,k):(List aH)×Int)=>bif decide (k<x.bn.length) then(aD y k).bind λb=>(f b).bind λc=>(cR y k c).bind λd=>a (d,wr (k+1)) else e ((⟨y,x.aG⟩:Loop),wr (0+1))) n (x.bn,0) else bif decide (i=1) then a8 (λa ((y,k):(List aH)×Int)=>bif decide (k<x.aG.length) then(aD y k).bind λb=>(f b).bind λc=>(cR y k c).bind λd=>a (d,wr (k+1)) else e ((⟨x.bn,y⟩:Loop),wr (1+1))) n (x.aG,0) else none else some x) n (l,0))
def vN(n:Nat)(p:Part)(a:Int)(f:aH->Option aH):Option Part:=(a8 (λb ((x,k):(List Loop)×Int)=>(eo p.nest x).bind λo=>bif decide (k<x.length) then(aD x k).bind λc=>(vH n c f).bind λd=>(cR x k d).bind λe=>b (e,wr (k+1)) else a8 (λh ((y,j):(List Stmt)×Int)=>(eo p.body y).bind λq=>bif decide (j<p.body.length) then(aD y j).bind λi=>(i8 n i f).bind λl=>(cR y j l).bind λm=>h (m,wr (j+1)) else some (⟨x,y⟩:Part)) n (p.body,0)) n (p.nest,a))
def wx(n:Nat)(p:Prog):Option (Prog×Bool):=((sE n p).bind λa=>bif !a then some ((⟨[],[]⟩:Prog),false) else(qj n p).bind λb=>some (b,true))
def ts(n:Nat)(a:List Int)(b:List Int):Option Bool:=(bif !decide ((a.length:Int)=b.length) then some false else a8 (λd (c:Int)=>bif decide (c<a.length) then(aD a c).bind λe=>(aD b c).bind λh=>bif !decide (e=h) then some false else d (wr (c+1)) else some true) n 0)
def w6(n:Nat)(a b:bX):Option Bool:=(bif !decide (a.name=b.name) then some false else(ts n a.bo b.bo).bind λc=>bif !c then some false else some true)
def Cf(n:Nat)(a:List bX)(b:List bX):Option Bool:=(bif !decide ((a.length:Int)=b.length) then some false else a8 (λd (c:Int)=>bif decide (c<a.length) then(aD a c).bind λe=>(aD b c).bind λh=>(w6 n e h).bind λi=>bif !i then some false else d (wr (c+1)) else some true) n 0)
def sU(n:Nat)(a b:aH):Option Bool:=((ts n a.ao b.ao).bind λc=>bif !c then some false else bif !decide (a.const=b.const) then some false else some true)
def sN(n:Nat)(a:List aH)(b:List aH):Option Bool:=(bif !decide ((a.length:Int)=b.length) then some false else a8 (λd (c:Int)=>bif decide (c<a.length) then(aD a c).bind λe=>(aD b c).bind λh=>(sU n e h).bind λi=>bif !i then some false else d (wr (c+1)) else some true) n 0)
def xz(n:Nat)(a b:Loop):Option Bool:=((sN n a.bn b.bn).bind λc=>bif !c then some false else(sN n a.aG b.aG).bind λd=>bif !d then some false else some true)
def x9(n:Nat)(a:List Loop)(b:List Loop):Option Bool:=(bif !decide ((a.length:Int)=b.length) then some false else a8 (λd (c:Int)=>bif decide (c<a.length) then(aD a c).bind λe=>(aD b c).bind λh=>(xz n e h).bind λi=>bif !i then some false else d (wr (c+1)) else some true) n 0)
def sV(n:Nat)(a b:bR):Option Bool:=(bif !decide (a.array=b.array) then some false else(sN n a.ak b.ak).bind λc=>bif !c then some false else some true)
def x'(n:Nat)(self:Expr->Expr->Option Bool)(a:List Expr)(b:List Expr):Option Bool:=(bif !decide ((a.length:Int)=b.length) then some false else a8 (λd (c:Int)=>bif decide (c<a.length) then(aD a c).bind λe=>(aD b c).bind λh=>(self e h).bind λi=>bif !i then some false else d (wr (c+1)) else some true) n 0)
def mi:Nat->Expr->Expr->Option Bool
 |0,_,_=>none
 |n+1,a,b=>(bif !decide (a.kind=b.kind) then some false else bif !decide (a.num=b.num) then some false else(sU n a.index b.index).bind λc=>bif !c then some false else(sV n a.read b.read).bind λd=>bif !d then some false else(x' n (mi n) a.aJ b.aJ).bind λe=>bif !e then some false else some true)
def xx(n:Nat)(a b:Stmt):Option Bool:=((sV n a.write b.write).bind λc=>bif !c then some false else(mi n a.value b.value).bind λd=>bif !d then some false else some true)
def x7(n:Nat)(a:List Stmt)(b:List Stmt):Option Bool:=(bif !decide ((a.length:Int)=b.length) then some false else a8 (λd (c:Int)=>bif decide (c<a.length) then(aD a c).bind λe=>(aD b c).bind λh=>(xx n e h).bind λi=>bif !i then some false else d (wr (c+1)) else some true) n 0)
def xy(n:Nat)(a b:Part):Option Bool:=((x9 n a.nest b.nest).bind λc=>bif !c then some false else(x7 n a.body b.body).bind λd=>bif !d then some false else some true)
def x8(n:Nat)(a:List Part)(b:List Part):Option Bool:=(bif !decide ((a.length:Int)=b.length) then some false else a8 (λd (c:Int)=>bif decide (c<a.length) then(aD a c).bind λe=>(aD b c).bind λh=>(xy n e h).bind λi=>bif !i then some false else d (wr (c+1)) else some true) n 0)
def ku(n:Nat)(a b:Prog):Option Bool:=((Cf n a.a' b.a').bind λc=>bif !c then some false else(x8 n a.parts b.parts).bind λd=>bif !d then some false else some true)
def hG(n:Nat)(k:Int):Option (List UInt8):=(bif decide (k<=0) then some [109,48] else a8 (λc ((a,b):Int×(List UInt8))=>bif decide ((0:Int)<a) then(cat [UInt8.ofInt (wr (48+(Int.tmod a 10)))] b).bind λd=>c (wr (Int.tdiv a 10),d) else(cat [109] b).bind λe=>some e) n (k,[]))
def d6(n:Nat)(a:List Int)(k:Int):Option Int:=(a8 (λd ((b,c):Int×Int)=>bif decide (c<a.length) then(aD a c).bind λe=>bif !decide (e=b) then some (-1) else d (wr (b+1),wr (c+1)) else some b) n (k,0))
def qq(n:Nat)(a:List bX)(k:Int):Option Int:=(a8 (λh ((b,c):Int×Int)=>bif decide (c<a.length) then(aD a c).bind λd=>(hG n b).bind λi=>bif !decide (d.name=i) then some (-1) else(d6 n d.bo (wr (b+1))).bind λe=>bif decide (e<0) then some (-1) else h (e,wr (c+1)) else some b) n (k,0))
def ia(n:Nat)(a:List aH)(k:Int):Option Int:=(a8 (λh ((d,b):Int×Int)=>bif decide (b<a.length) then(aD a b).bind λe=>(d6 n e.ao d).bind λc=>bif decide (c<0) then some (-1) else bif !decide (e.const=c) then some (-1) else h (wr (c+1),wr (b+1)) else some d) n (k,0))
def oM(n:Nat)(a:List Loop)(k:Int):Option Int:=(a8 (λi ((c,b):Int×Int)=>bif decide (b<a.length) then(aD a b).bind λd=>(ia n d.bn c).bind λe=>bif decide (e<0) then some (-1) else(ia n d.aG e).bind λh=>bif decide (h<0) then some (-1) else i (h,wr (b+1)) else some c) n (k,0))
def kg:Nat->(List Expr)->Int->Option Int
 |0,_,_=>none
 |n+1,a,k=>(a8 (λl ((c,e):Int×Int)=>bif decide (e<a.length) then(aD a e).bind λb=>bif !decide (b.kind=c) then some (-1) else bif !decide (b.num=wr (c+1)) then some (-1) else(d6 n b.index.ao (wr ((wr (c+1))+1))).bind λd=>bif decide (d<0) then some (-1) else bif !decide (b.index.const=d) then some (-1) else(hG n (wr (d+1))).bind λm=>bif !decide (b.read.array=m) then some (-1) else(ia n b.read.ak (wr ((wr (d+1))+1))).bind λh=>bif decide (h<0) then some (-1) else(kg n b.aJ h).bind λi=>bif decide (i<0) then some (-1) else l (i,wr (e+1)) else some c) n (k,0))
def oL(n:Nat)(a:List Stmt)(k:Int):Option Int:=(a8 (λm ((h,i):Int×Int)=>bif decide (i<a.length) then(aD a i).bind λb=>(hG n h).bind λo=>bif !decide (b.write.array=o) then some (-1) else(ia n b.write.ak (wr (h+1))).bind λd=>bif decide (d<0) then some (-1) else bif !decide (b.value.kind=d) then some (-1) else bif !decide (b.value.num=wr (d+1)) then some (-1) else(d6 n b.value.index.ao (wr ((wr (d+1))+1))).bind λe=>bif decide (e<0) then some (-1) else bif !decide (b.value.index.const=e) then some (-1) else(hG n (wr (e+1))).bind λp=>bif !decide (b.value.read.array=p) then some (-1) else(ia n b.value.read.ak (wr ((wr (e+1))+1))).bind λl=>bif decide (l<0) then some (-1) else(kg n b.value.aJ l).bind λc=>bif decide (c<0) then some (-1) else m (c,wr (i+1)) else some h) n (k,0))
def qv(n:Nat)(a:List Part)(k:Int):Option Int:=(a8 (λi ((c,b):Int×Int)=>bif decide (b<a.length) then(aD a b).bind λd=>(oM n d.nest c).bind λe=>bif decide (e<0) then some (-1) else(oL n d.body e).bind λh=>bif decide (h<0) then some (-1) else i (h,wr (b+1)) else some c) n (k,0))
def ot(n:Nat)(a:Prog)(k:Int):Option Int:=((qq n a.a' k).bind λb=>bif decide (b<0) then some (-1) else(qv n a.parts b).bind λc=>bif decide (c<0) then some (-1) else some c)
def vT(n:Nat)(d:List Int):Option Int:=(a8 (λb (a:Int)=>bif decide (a<d.length) then(aD d a).bind λc=>bif !decide (c=0) then some a else b (wr (a+1)) else some (-1)) n 0)
def xF(n:Nat)(d:List Int):Option Bool:=((vT n d).bind λa=>aW (fun(c:Bool)=>some c) λb=>bif decide (a<0) then b true else(aD d a).bind λe=>b (decide ((0:Int)<e)))
def xE(n:Nat)(x:Loop)(v:Int):Option Bool:=(a8 (λc (a:Int)=>bif decide (a<x.bn.length) then(aD x.bn a).bind λd=>(aD d.ao v).bind λe=>bif !decide (e=0) then some true else c (wr (a+1)) else a8 (λh (b:Int)=>bif decide (b<x.aG.length) then(aD x.aG b).bind λi=>(aD i.ao v).bind λk=>bif !decide (k=0) then some true else h (wr (b+1)) else some false) n 0) n 0)
def sH(n:Nat)(p:Prog):Option (List cv):=(a8 (λs ((m,c):(List cv)×Int)=>bif decide (c<p.parts.length) then(aD p.parts c).bind λo=>(ma n [] o.nest []).bind λq=>a8 (λd ((r,e):(List cv)×Int)=>bif decide (e<q.length) then a8 (λh ((b,a):(List cv)×Int)=>bif decide (a<o.body.length) then(aD q e).bind λi=>(app [] i).bind λk=>(app b [(⟨c,a,k⟩:cv)]).bind λl=>h (l,wr (a+1)) else d (b,wr (e+1))) n (r,0) else s (r,wr (c+1))) n (m,0) else some m) n ([],0))
def xH(n:Nat)(p:Prog):Option (List kj):=((sH n p).bind λd=>a8 (λi ((e,a):(List kj)×Int)=>bif decide (a<d.length) then(aD d a).bind λb=>(aD p.parts b.part).bind λk=>(aD k.body b.stmt).bind λl=>(qG n p.a' l b.cP).bind λh=>(app e [(⟨h.1,h.2.1⟩:kj)]).bind λc=>i (c,wr (a+1)) else some e) n ([],0))
def tN(n:Nat)(a:List Int)(b:Int):Option Bool:=(a8 (λd (c:Int)=>bif decide (c<a.length) then(aD a c).bind λe=>bif decide (e=b) then some true else d (wr (c+1)) else some false) n 0)
def w9(n:Nat)(a b:kj):Option Int:=(aW (fun(c:Int)=>aW (fun(d:Int)=>aW (fun(k:Int)=>some k) λe=>bif decide (a.write=b.write) then e (wr (d+4)) else e d) λh=>(tN n a.reads b.write).bind λl=>bif l then h (wr (c+2)) else h c) λi=>(tN n b.reads a.write).bind λm=>bif m then i (wr (0+1)) else i 0)
def xI(n:Nat)(p:Prog):Option (List fa):=((xH n p).bind λd=>a8 (λq ((o,a):(List fa)×Int)=>bif decide (a<d.length) then a8 (λr ((h,e):(List fa)×Int)=>bif decide (e<d.length) then aW (fun(i:(List fa))=>r (i,wr (e+1))) (λb=>(aD d a).bind λk=>(aD d e).bind λl=>(w9 n k l).bind λc=>bif !decide (c=0) then(app h [(⟨a,e,c⟩:fa)]).bind λm=>b m else b h) else q (h,wr (a+1))) n (o,wr (a+1)) else some o) n ([],0))
def xN(n:Nat)(a:List Int)(b:List Int):Option Bool:=(bif !decide ((a.length:Int)=b.length) then some false else a8 (λd (c:Int)=>bif decide (c<a.length) then(aD a c).bind λe=>(aD b c).bind λh=>bif !decide (e=h) then some false else d (wr (c+1)) else some true) n 0)
def xc(n:Nat)(p:List Int)(q:List Int):Option Bool:=(a8 (λe (a:Int)=>aW (fun(h:Bool)=>bif h then(aD p a).bind λb=>(aD q a).bind λc=>bif !decide (b=c) then some (decide (b<c)) else e (wr (a+1)) else some (decide ((p.length:Int)<q.length))) λd=>bif decide (a<p.length) then d (decide (a<q.length)) else d false) n 0)
def ue(n:Nat)(a:List (List Int))(d:List Int):Option (List (List Int)):=(a8 (λx ((c,e,h):(List (List Int))×Bool×Int)=>bif decide (h<a.length) then(aD a h).bind λi=>(xN n i d).bind λy=>bif y then some a else aW (fun((k,l):(List (List Int))×Bool)=>(app k [i]).bind λm=>x (m,l,wr (h+1))) (λv=>aW (fun(o:Bool)=>bif o then(app c [d]).bind λp=>v (p,true) else v (c,e)) λw=>bif !e then(xc n d i).bind λq=>w q else w false) else aW (fun(r:(List (List Int)))=>some r) λb=>bif !e then(app c [d]).bind λs=>b s else b c) n ([],false,0))
def w8(n:Nat)(a:List Int)(b:List Int):Option (List Int):=(a8 (λe ((d,c):(List Int)×Int)=>bif decide (c<a.length) then(aD a c).bind λh=>(aD b c).bind λi=>(app d [wr (h-i)]).bind λk=>e (k,wr (c+1)) else some d) n ([],0))
def vK(n:Nat)(p:Prog)(a:Int):Option (List (List Int)):=((sH n p).bind λo=>(xI n p).bind λq=>a8 (λv ((e,h):(List (List Int))×Int)=>bif decide (h<q.length) then aW (fun((w,x,y,z,A,B,i):Int×Int×(List Int)×Int×Int×(List Int)×(List (List Int)))=>v (i,wr (h+1))) (λr=>(aD q h).bind λs=>(aD o s.eH).bind λb=>(aD o s.eJ).bind λc=>aW (fun(k:Bool)=>bif k then(w8 n c.cP b.cP).bind λl=>(ue n e l).bind λm=>r (b.part,b.stmt,b.cP,c.part,c.stmt,c.cP,m) else r (b.part,b.stmt,b.cP,c.part,c.stmt,c.cP,e)) λd=>bif decide (b.part=a) then d (decide (c.part=a)) else d false) else some e) n ([],0))
def qh(n:Nat)(p:Prog)(b a:Int):Option (Prog×Bool):=((qb n p).bind λh=>aW (fun(C:Bool)=>bif C then some ((⟨[],[]⟩:Prog),false) else(vK n h b).bind λB=>a8 (λo (d:Int)=>bif decide (d<B.length) then(aD B d).bind λe=>(app [] e).bind λi=>(aD e (wr (a+1))).bind λq=>(aD i a).bind λD=>(cR i a q).bind λk=>(aD e a).bind λr=>(aD k (wr (a+1))).bind λF=>(cR k (wr (a+1)) r).bind λs=>(xF n s).bind λv=>bif !v then some ((⟨[],[]⟩:Prog),false) else o (wr (d+1)) else(aD h.parts b).bind λw=>(w7 n w (wr (a+1)) 0 a (⟨[],0⟩:aH)).bind λc=>(aD c.nest a).bind λx=>(aD c.nest (wr (a+1))).bind λy=>(cR c.nest a y).bind λl=>(aD l (wr (a+1))).bind λG=>(cR l (wr (a+1)) x).bind λz=>(xD n h b 1 [(⟨z,c.body⟩:Part)]).bind λm=>some (m.1,m.2)) n 0) λA=>(o3 n h b a).bind λH=>bif !H then A true else(o3 n h b (wr (a+1))).bind λK=>bif !K then A true else(aD h.parts b).bind λL=>(aD L.nest (wr (a+1))).bind λQ=>(xE n Q a).bind λR=>A R)
def mI(n:Nat)(a:aH)(b:Int):Option Bool:=((aD a.ao b).bind λc=>some (!decide (c=0)))
def wo(n:Nat)(l:Loop)(v:Int):Option Bool:=(aW (fun(c:Bool)=>some c) λb=>(oh n l.bn λa=>mI n a v).bind λd=>bif d then b true else(oh n l.aG λa=>mI n a v).bind λe=>b e)
def vG(n:Nat)(p:Prog)(x:cv):Option Stmt:=((aD p.parts x.part).bind λa=>(aD a.body x.stmt).bind λb=>some b)
def vx(n:Nat)(p:Prog)(x:cv):Option ((List Int)×Int):=((vG n p x).bind λc=>(mT n c.value).bind λd=>a8 (λh ((e,a):(List Int)×Int)=>bif decide (a<d.length) then(aD d a).bind λi=>(oo n p i x.cP).bind λk=>(app e [k]).bind λl=>h (l,wr (a+1)) else(oo n p c.write x.cP).bind λb=>some (e,b)) n ([],0))
def tM(n:Nat)(p:Prog):Option ((Option nW)×Bool):=((p3 n p).bind λa=>bif !a.2 then some (none,false) else a8 (λk ((e,h,b):(List (List Int))×(List Int)×Int)=>bif decide (b<a.1.length) then(aD a.1 b).bind λl=>(vx n p l).bind λi=>(app e [i.1]).bind λc=>(app h [i.2]).bind λd=>k (c,d,wr (b+1)) else some (some (⟨p,a.1,e,h⟩:nW),true)) n ([],[],0))
def BX(n:Nat)(s:List Int)(v:Int):Option Int:=(a8 (λb (a:Int)=>bif decide (a<s.length) then(aD s a).bind λc=>bif decide (v=c) then some a else b (wr (a+1)) else some (-1)) n 0)
def sD(n:Nat)(s:List Int)(v:Int):Option Bool:=((BX n s v).bind λa=>some (decide ((0:Int)<=a)))
def vz(n:Nat)(t:nW)(a b:Int):Option Int:=(aW (fun(k:Int)=>aW (fun(c:Int)=>aW (fun(e:Int)=>some e) λd=>(aD t.fY a).bind λh=>(aD t.fY b).bind λi=>bif decide (h=i) then d (wr (c+4)) else d c) λl=>(aD t.reads a).bind λo=>(aD t.fY b).bind λp=>(sD n o p).bind λq=>bif q then l (wr (k+2)) else l k) λm=>(aD t.reads b).bind λr=>(aD t.fY a).bind λs=>(sD n r s).bind λv=>bif v then m (wr (0+1)) else m 0)
def vM(n:Nat)(t:nW):Option (List fa):=(a8 (λl ((i,a):(List fa)×Int)=>bif decide (a<t.list.length) then a8 (λm ((d,c):(List fa)×Int)=>bif decide (c<t.list.length) then aW (fun(e:(List fa))=>m (e,wr (c+1))) (λk=>(vz n t a c).bind λb=>bif decide ((0:Int)<b) then(app d [(⟨a,c,b⟩:fa)]).bind λh=>k h else k d) else l (d,wr (a+1))) n (i,wr (a+1)) else some i) n ([],0))
def BA(n:Nat)(a:Int):Option Bool:=(some (!decide (a=0)))
def m9(n:Nat)(d:List Int):Option Int:=((r9 n d λa=>BA n a).bind λb=>some b)
def vf(n:Nat)(t:nW)(c:Int):Option (List (List Int)):=((vM n t).bind λx=>a8 (λz ((k,l):(List (List Int))×Int)=>bif decide (l<x.length) then aW (fun((m,A,B,C,D,F,G,H,K,L):(List (List Int))×Int×Int×Int×Int×Int×(List Int)×Int×Int×(List Int))=>z (m,wr (l+1))) (λy=>(aD x l).bind λd=>(aD t.list d.eH).bind λe=>(aD t.list d.eJ).bind λa=>aW (fun(o:Bool)=>bif o then y (k,d.eH,d.eJ,d.kinds,e.part,e.stmt,e.cP,a.part,a.stmt,a.cP) else a8 (λp ((h,b):(List Int)×Int)=>bif decide (b<a.cP.length) then(aD a.cP b).bind λq=>(aD e.cP b).bind λr=>(app h [wr (q-r)]).bind λs=>p (s,wr (b+1)) else(app k [h]).bind λv=>y (v,d.eH,d.eJ,d.kinds,e.part,e.stmt,e.cP,a.part,a.stmt,a.cP)) n ([],0)) λi=>bif !decide (e.part=c) then i true else i (!decide (a.part=c))) else(j2 k).bind λw=>some (fi w)) n ([],0))
def vI(n:Nat)(p:Prog)(a:Int):Option (List (List Int)):=((tM n p).bind λb=>bif b.1.isSome then aW (fun(e:Bool)=>bif e then some [] else(vf n (b.1.getD default) a).bind λh=>some h) (λc=>bif !b.2 then c true else(mG n p a).bind λi=>c (!i)) else aW (fun(k:Bool)=>bif k then some [] else none) λd=>bif !b.2 then d true else(mG n p a).bind λl=>d (!l))
def uk(n:Nat)(p:Prog)(c:Int)(f:List Int->Option (List Int)):Option Bool:=((vI n p c).bind λh=>a8 (λl ((b,i):(List (List Int))×Int)=>bif decide (i<h.length) then(aD b i).bind λd=>(f d).bind λe=>(eo d e).bind λm=>(m9 n e).bind λk=>(cR b i e).bind λa=>bif decide ((0:Int)<=k) then(aD e k).bind λy=>bif decide (y<0) then some false else l (a,wr (i+1)) else l (a,wr (i+1)) else some true) n (h,0))
def qd(n:Nat)(d:List Int)(a:Int):Option (List Int):=((aD d (wr (a+1))).bind λc=>(aD d a).bind λe=>(cR d a c).bind λb=>(aD b (wr (a+1))).bind λi=>(cR b (wr (a+1)) e).bind λh=>some h)
def qc(n:Nat)(a:aH)(b:Int):Option aH:=((kv n a).bind λc=>(aD c.ao (wr (b+1))).bind λe=>(aD c.ao b).bind λh=>(cR c.ao b e).bind λd=>(aD d (wr (b+1))).bind λk=>(cR d (wr (b+1)) h).bind λi=>some (⟨i,c.const⟩:aH))
def mJ(n:Nat)(p:Prog)(b a:Int):Option (Prog×Bool):=((m7 n p b a).bind λe=>bif e.2 then bif decide (a<0) then some ((⟨[],[]⟩:Prog),false) else(aD e.1.parts b).bind λc=>bif decide ((c.nest.length:Int)<=wr (a+1)) then some ((⟨[],[]⟩:Prog),false) else(aD c.nest (wr (a+1))).bind λq=>(wo n q a).bind λr=>bif r then some ((⟨[],[]⟩:Prog),false) else(uk n p b λh=>qd n h a).bind λs=>bif s then(aD c.nest a).bind λv=>(cR c.nest a q).bind λi=>(cR i (wr (a+1)) v).bind λd=>(cR e.1.parts b (⟨d,c.body⟩:Part)).bind λk=>(vN n (⟨d,c.body⟩:Part) (wr (a+2)) λh=>qc n h a).bind λl=>(cR k b l).bind λm=>(wx n (⟨e.1.a',m⟩:Prog)).bind λo=>some o else some ((⟨[],[]⟩:Prog),false) else some ((⟨[],[]⟩:Prog),false))
def aU:List de:=[⟨3,1,[]⟩,⟨98,2,[(1,0)]⟩,⟨46,2,[(0,0)]⟩,⟨64,2,[(0,2),(1,2)]⟩,⟨108,7,[(2,0),(5,2),(6,4)]⟩,⟨110,9,[(1,2),(4,0),(7,2),(8,4)]⟩,⟨54,2,[(0,3),(1,5)]⟩]
def oO(n:Nat)(a:List Int)(k:Int):Option (Int×List Int):=a8 (λd ((b6,b,c):Int×List Int×Int)=>bif decide (c<b.length) then(aD b c).bind λy=>(cR b c b6).bind λz=>d (wr (b6+1),z,wr (c+1)) else some (b6,b)) n (k,a,0)
def vQ(n:Nat)(a:List bX)(k:Int):Option (Int×List bX):=a8 (λe ((b6,b,c):Int×List bX×Int)=>bif decide (c<b.length) then(aD b c).bind λy=>(hG n b6).bind λh=>(oO n y.bo (wr (b6+1))).bind λd=>(eo y.bo d.2).bind λ_=>(cR b c (⟨h,d.2⟩:bX)).bind λz=>e (d.1,z,wr (c+1)) else some (b6,b)) n (k,a,0)
def mH(n:Nat)(a:List aH)(k:Int):Option (Int×List aH):=a8 (λe ((b6,b,c):Int×List aH×Int)=>bif decide (c<b.length) then(aD b c).bind λy=>(oO n y.ao b6).bind λd=>(eo y.ao d.2).bind λ_=>(cR b c (⟨d.2,d.1⟩:aH)).bind λz=>e (wr (d.1+1),z,wr (c+1)) else some (b6,b)) n (k,a,0)
def wa(n:Nat)(a:List Loop)(k:Int):Option (Int×List Loop):=a8 (λh ((b6,b,c):Int×List Loop×Int)=>bif decide (c<b.length) then(aD b c).bind λy=>(mH n y.bn b6).bind λd=>(eo y.bn d.2).bind λ_=>(mH n y.aG d.1).bind λe=>(eo y.aG e.2).bind λ_=>(cR b c (⟨d.2,e.2⟩:Loop)).bind λz=>h (e.1,z,wr (c+1)) else some (b6,b)) n (k,a,0)
def nL:Nat->List Expr->Int->Option (Int×List Expr)
 |0,_,_=>none
 |n+1,a,k=>a8 (λi ((b6,c,d):Int×List Expr×Int)=>bif decide (d<c.length) then(aD c d).bind λy=>(oO n y.index.ao (wr (wr (b6+1)+1))).bind λb=>(eo y.index.ao b.2).bind λ_=>(hG n (wr (b.1+1))).bind λl=>(mH n y.read.ak (wr (wr (b.1+1)+1))).bind λe=>(eo y.read.ak e.2).bind λ_=>(nL n y.aJ e.1).bind λh=>(eo y.aJ h.2).bind λ_=>(cR c d (⟨b6,wr (b6+1),⟨b.2,b.1⟩,⟨l,e.2⟩,h.2⟩:Expr)).bind λz=>i (h.1,z,wr (d+1)) else some (b6,c)) n (k,a,0)
def v'(n:Nat)(a:List Stmt)(k:Int):Option (Int×List Stmt):=a8 (λl ((b6,d,e):Int×List Stmt×Int)=>bif decide (e<d.length) then(aD d e).bind λy=>(hG n b6).bind λm=>(mH n y.write.ak (wr (b6+1))).bind λb=>(eo y.write.ak b.2).bind λ_=>(oO n y.value.index.ao (wr (wr (b.1+1)+1))).bind λc=>(eo y.value.index.ao c.2).bind λ_=>(hG n (wr (c.1+1))).bind λo=>(mH n y.value.read.ak (wr (wr (c.1+1)+1))).bind λh=>(eo y.value.read.ak h.2).bind λ_=>(nL n y.value.aJ h.1).bind λi=>(eo y.value.aJ i.2).bind λ_=>(cR d e (⟨⟨m,b.2⟩,⟨b.1,wr (b.1+1),⟨c.2,c.1⟩,⟨o,h.2⟩,i.2⟩⟩:Stmt)).bind λz=>l (i.1,z,wr (e+1)) else some (b6,d)) n (k,a,0)
def sO(n:Nat)(a:List Part)(k:Int):Option (Int×List Part):=a8 (λh ((b6,b,c):Int×List Part×Int)=>bif decide (c<b.length) then(aD b c).bind λy=>(wa n y.nest b6).bind λd=>(eo y.nest d.2).bind λ_=>(v' n y.body d.1).bind λe=>(eo y.body e.2).bind λ_=>(cR b c (⟨d.2,e.2⟩:Part)).bind λz=>h (e.1,z,wr (c+1)) else some (b6,b)) n (k,a,0)
def ov(n:Nat)(a:Prog)(k:Int):Option (Int×List bX×List Part):=(vQ n a.a' k).bind λb=>(sO n a.parts b.1).bind λc=>some (c.1,b.2,c.2)
def HI(n:Nat)(i:Prog)(b c:Int):Option Bool:=((v8 n i 1048576).bind λA=>bif decide (A<0) then some true else(kt n i).bind λB=>(qh n B b c).bind λh=>(kt n i).bind λp=>(mJ n p b c).bind λd=>aW (fun(C:Bool)=>bif C then some false else(kt n i).bind λD=>(ku n p D).bind λq=>bif !q then some false else(ov n p 1).bind λr=>aW (fun(s:Bool)=>bif s then some false else(ov n d.1 1).bind λa=>(eo d.1.a' a.2.1).bind λ_=>(eo d.1.parts a.2.2).bind λ_=>(ot n (⟨a.2.1,a.2.2⟩:Prog) 1).bind λk=>bif decide (k<0) then some false else bif !decide (k=a.1) then some false else(kt n i).bind λv=>(mJ n v b c).bind λl=>aW (fun(w:Bool)=>bif w then some false else(ot n (⟨a.2.1,a.2.2⟩:Prog) 1).bind λm=>bif decide (m<0) then some false else bif !decide (m=a.1) then some false else some true) λo=>(ku n l.1 h.1).bind λx=>bif !x then o true else o (!(l.2==h.2))) λe=>bif decide (r.1<0) then e true else(ku n d.1 h.1).bind λy=>bif !y then e true else e (!(d.2==h.2))) λz=>(ku n d.1 h.1).bind λF=>bif !F then z true else z (!(d.2==h.2)))
end Go.Lift
