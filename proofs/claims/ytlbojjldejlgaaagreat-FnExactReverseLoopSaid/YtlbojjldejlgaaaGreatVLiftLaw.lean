/- Tools. -/
import Derived.Test.YtlbojjldejlgaaaGreatVLiftSq
import Derived.Lib.SplitLaws
namespace Go.Lift
open Go
section
theorem a'{n:Int}(h: -9223372036854775808<=n/\n<=9223372036854775807):wr n=n:=IntWalk.i64_in n O
def ah{k:Type}(o:Option k)(Q:k->Prop):Prop:= ∃r,o=some r/\Q r
section
variable {α β R nQ:Type}{Q:R->Prop}
theorem ah.some{r:R}(h:Q r):ah (some r) Q:=⟨r,rfl,h⟩
theorem ah.bind{o:Option α}{f:α->Option R}(h:ah o λx=>ah (f x) Q):ah (Option.bind o f) Q:=by obtain⟨x,rfl,r,a,b⟩:=h;exact⟨r,a,b⟩
theorem jY{o:Option α}{f:α->Option R}{P:α->Prop}(h:ah o P)(k: ∀x,P x->ah (f x) Q):ah (Option.bind o f) Q:=by obtain⟨x,rfl,h⟩:=h;exact k x h
theorem ai{o:Option α}{f:α->Option R}{x:α}(h:o=Option.some x)(k:ah (f x) Q):ah (Option.bind o f) Q:=by subst h;exact k
theorem ah.mono{o:Option R}{P:R->Prop}(h:ah o P)(k: ∀x,P x->Q x):ah o Q:=by obtain⟨x,rfl,h⟩:=h;exact⟨x,rfl,k x h⟩
theorem ah.cond{c:Bool}{A B:Option R}(a:c=true->ah A Q)(b:c=false->ah B Q):ah (bif c then A else B) Q:=by
 cases c with
 |true=>exact a rfl
 |false=>exact b rfl
variable {p:Prop}{k:Type}{l:List k}
theorem bc[Decidable p]{A B:Option R}(a:p->ah A Q)(b: ¬p->ah B Q):ah (bif decide p then A else B) Q:=
 ah.cond (λh=>a (xT h)) λh=>b (of_decide_eq_false h)
theorem dD[Decidable p]{A B:Option R}(a: ¬p->ah A Q)(b:p->ah B Q):ah (bif !decide p then A else B) Q:=
 ah.cond (λh=>a (by simpa using h)) λh=>b (by simpa using h)
theorem ah.aY{a:nQ->Option R}{t:(nQ->Option R)->Option R}(P:nQ->Prop)(b: ∀j,(∀z,P z->ah (j z) Q)->ah (t j) Q)(c: ∀z,P z->ah (a z) Q):ah (aY a t) Q:=b a c
theorem ah.loop{a:(nQ->Option R)->nQ->Option R}(I:nQ->Prop)(jF :nQ->Nat)
  (h: ∀b x,I x->(∀y,I y-> jF y< jF x->ah (b y) Q)->ah (a b x) Q): ∀(n:Nat) (x:nQ),I x-> jF x<n->ah (ba a n x) Q
 |0,_,_,c=>a7 c (lA _)
 |n+1,x,d,c=>h _ x d λy e i=>ah.loop I jF h n y e O
theorem ah.eq{o:Option R}{r:R}(h:ah o λx=>x=r):o=Option.some r:=by obtain⟨x,rfl,rfl⟩:=h;rfl
theorem ah.of{o:Option R}{r:R}(h:o=Option.some r)(k:Q r):ah o Q:=⟨r,h,k⟩
end
variable {p:Prop}{k:Type}{l:List k}
theorem bI{i:Nat}{x:k}(h:l[i]? =some x):aH l (i:Int)=some x:=by unfold aH;rw[bn O,Int.toNat_natCast];exact h
theorem rS{i:Int}(b:0<=i)(h:i<l.length): ∃x,aH l i=some x/\l[i.toNat]? =some x:=by
 have a:i.toNat<l.length:=O
 exact⟨l[i.toNat],by unfold aH;rw[bn b,bh a],bh a⟩
theorem zG{a b:Int}(c:0<=a)(d:a<=b)(e:b<=l.length):sub l a b=some ((l.take b.toNat).drop a.toNat):=by unfold sub;rw[bn ⟨c,d,e⟩]
theorem ek{a b:List k}(h:a.length+b.length<=1000000000):app a b=some (a++b):=by unfold app;rw[bn h]
theorem Ga{a b:List UInt8}(h:(a.length:Int)+b.length<=9223372036854775807):cat a b=some (a++b):=by unfold cat;rw[bn h]
end
set_option linter.unusedVariables false
structure az where
 ak:List Int
 const:Int
 deriving Inhabited
abbrev ag(x:az):List T:=[T.aa (List.map U x.ak),T.int .i64 x.const]
theorem gi(x:az):(ag x).length=2:=rfl
structure Loop where
 bg:List az
 aD:List az
 deriving Inhabited
abbrev aG(x:Loop):List T:=[T.aa (List.map ag x.bg),T.aa (List.map ag x.aD)]
theorem je(x:Loop):(aG x).length=2:=rfl
structure bR where
 array:List UInt8
 al:List az
 deriving Inhabited
abbrev eh(x:bR):List T:=[T.str x.array,T.aa (List.map ag x.al)]
theorem wu(x:bR):(eh x).length=2:=rfl
structure Expr where
 kind:Int
 num:Int
 index:az
 read:bR
 aJ:List Expr
instance:Inhabited Expr:=⟨⟨0,0,(⟨[],0⟩:az),(⟨[],[]⟩:bR),[]⟩⟩
mutual
def an:Expr->List T
 |⟨a0,ay,a2,a3,a4⟩=>[T.int .i64 a0,T.int .i64 ay,T.aa (List.map U a2.ak),T.int .i64 a2.const,T.str a3.array,T.aa (List.map ag a3.al),T.aa (nw a4)]
def nw:List Expr->List (List T)
 | []=>[]
 |x::l=>an x::nw l
end
theorem Cv: ∀l:List Expr,nw l=List.map an l
 | []=>by simp[nw]
 |x::l=>by simp[nw,Cv l]
abbrev c'(x:Expr):List T:=[T.int .i64 x.kind,T.int .i64 x.num,T.aa (List.map U x.index.ak),T.int .i64 x.index.const,T.str x.read.array,T.aa (List.map ag x.read.al),T.aa (List.map an x.aJ)]
theorem cz(x:Expr):an x=c' x:=by cases x;simp[an,Cv]
theorem jU(x:Expr):(an x).length=7:=by rw[cz];rfl
theorem rA(x:Expr):jz 7 1 (c' x)=List.map an [x]:=by rw[show List.map an [x]=[c' x] from by simp only[List.map,cz]];rfl
structure Stmt where
 write:bR
 value:Expr
 deriving Inhabited
abbrev aF(x:Stmt):List T:=[T.str x.write.array,T.aa (List.map ag x.write.al),T.int .i64 x.value.kind,T.int .i64 x.value.num,T.aa (List.map U x.value.index.ak),T.int .i64 x.value.index.const,T.str x.value.read.array,T.aa (List.map ag x.value.read.al),T.aa (List.map an x.value.aJ)]
theorem k4(x:Stmt):(aF x).length=9:=rfl
structure Part where
 nest:List Loop
 body:List Stmt
 deriving Inhabited
abbrev aL(x:Part):List T:=[T.aa (List.map aG x.nest),T.aa (List.map aF x.body)]
theorem hM(x:Part):(aL x).length=2:=rfl
structure bW where
 name:List UInt8
 bp:List Int
 deriving Inhabited
abbrev aT(x:bW):List T:=[T.str x.name,T.aa (List.map U x.bp)]
theorem nb(x:bW):(aT x).length=2:=rfl
structure Prog where
 bb:List bW
 parts:List Part
 deriving Inhabited
abbrev SY(x:Prog):List T:=[T.aa (List.map aT x.bb),T.aa (List.map aL x.parts)]
structure kx where
 nest:List Loop
 steps:Int
 out:List (List Int)
 deriving Inhabited
structure cy where
 part:Int
 stmt:Int
 cP:List Int
 deriving Inhabited
abbrev cD(x:cy):List T:=[T.int .i64 x.part,T.int .i64 x.stmt,T.aa (List.map U x.cP)]
theorem xr(x:cy):(cD x).length=3:=rfl
structure kr where
 reads:List Int
 write:Int
 deriving Inhabited
abbrev gR(x:kr):List T:=[T.aa (List.map U x.reads),T.int .i64 x.write]
theorem Dr(x:kr):(gR x).length=2:=rfl
structure fb where
 eG:Int
 eI:Int
 kinds:Int
 deriving Inhabited
abbrev dF(x:fb):List T:=[T.int .i64 x.eG,T.int .i64 x.eI,T.int .i64 x.kinds]
theorem x5(x:fb):(dF x).length=3:=rfl
structure nY where
 program:Prog
 list:List cy
 reads:List (List Int)
 gb:List Int
 deriving Inhabited
abbrev QR(x:nY):List T:=[T.aa (List.map aT x.program.bb),T.aa (List.map aL x.program.parts),T.aa (List.map cD x.list),T.aa (List.map (aK U) x.reads),T.aa (List.map U x.gb)]
def xK(n:Nat)(a:List Int)(left:Int):Option Int:=(bif decide (wr (left-(a.length:Int))<0) then some (-1) else some (wr (left-(a.length:Int))))
def wG(n:Nat)(a:az)(left:Int):Option Int:=((xK n a.ak left).bind λb=>bif decide (b<0) then some (-1) else some b)
def sV(n:Nat)(a:List az)(left:Int):Option Int:=(bif decide (wr (left-(a.length:Int))<0) then some (-1) else ba (λe ((c,b):Int×Int)=>bif decide (b<a.length) then(aH a b).bind λh=>(wG n h c).bind λd=>bif decide (d<0) then some (-1) else e (d,wr (b+1)) else some c) n (wr (left-(a.length:Int)),0))
def yJ(n:Nat)(a:Loop)(left:Int):Option Int:=((sV n a.bg left).bind λb=>bif decide (b<0) then some (-1) else(sV n a.aD b).bind λc=>bif decide (c<0) then some (-1) else some c)
def yd(n:Nat)(a:List Loop)(left:Int):Option Int:=(bif decide (wr (left-(a.length:Int))<0) then some (-1) else ba (λe ((c,b):Int×Int)=>bif decide (b<a.length) then(aH a b).bind λh=>(yJ n h c).bind λd=>bif decide (d<0) then some (-1) else e (d,wr (b+1)) else some c) n (wr (left-(a.length:Int)),0))
def wH(n:Nat)(a:bR)(left:Int):Option Int:=(bif decide (wr (left-(a.array.length:Int))<0) then some (-1) else(sV n a.al (wr (left-(a.array.length:Int)))).bind λb=>bif decide (b<0) then some (-1) else some b)
def ye(n:Nat)(self:Expr->Int->Option Int)(a:List Expr)(left:Int):Option Int:=(bif decide (wr (left-(a.length:Int))<0) then some (-1) else ba (λe ((c,b):Int×Int)=>bif decide (b<a.length) then(aH a b).bind λh=>(self h c).bind λd=>bif decide (d<0) then some (-1) else e (d,wr (b+1)) else some c) n (wr (left-(a.length:Int)),0))
def nP:Nat->Expr->Int->Option Int
 |0,_,_=>none
 |n+1,a,left=>((wG n a.index left).bind λb=>bif decide (b<0) then some (-1) else(wH n a.read b).bind λc=>bif decide (c<0) then some (-1) else(ye n (nP n) a.aJ c).bind λd=>bif decide (d<0) then some (-1) else some d)
def yH(n:Nat)(a:Stmt)(left:Int):Option Int:=((wH n a.write left).bind λb=>bif decide (b<0) then some (-1) else(nP n a.value b).bind λc=>bif decide (c<0) then some (-1) else some c)
def yc(n:Nat)(a:List Stmt)(left:Int):Option Int:=(bif decide (wr (left-(a.length:Int))<0) then some (-1) else ba (λe ((c,b):Int×Int)=>bif decide (b<a.length) then(aH a b).bind λh=>(yH n h c).bind λd=>bif decide (d<0) then some (-1) else e (d,wr (b+1)) else some c) n (wr (left-(a.length:Int)),0))
def yI(n:Nat)(a:Part)(left:Int):Option Int:=((yd n a.nest left).bind λb=>bif decide (b<0) then some (-1) else(yc n a.body b).bind λc=>bif decide (c<0) then some (-1) else some c)
def DO(n:Nat)(a:List Part)(left:Int):Option Int:=(bif decide (wr (left-(a.length:Int))<0) then some (-1) else ba (λe ((c,b):Int×Int)=>bif decide (b<a.length) then(aH a b).bind λh=>(yI n h c).bind λd=>bif decide (d<0) then some (-1) else e (d,wr (b+1)) else some c) n (wr (left-(a.length:Int)),0))
def yg(n:Nat)(a:bW)(left:Int):Option Int:=(bif decide (wr (left-(a.name.length:Int))<0) then some (-1) else(xK n a.bp (wr (left-(a.name.length:Int)))).bind λb=>bif decide (b<0) then some (-1) else some b)
def Cs(n:Nat)(a:List bW)(left:Int):Option Int:=(bif decide (wr (left-(a.length:Int))<0) then some (-1) else ba (λe ((c,b):Int×Int)=>bif decide (b<a.length) then(aH a b).bind λh=>(yg n h c).bind λd=>bif decide (d<0) then some (-1) else e (d,wr (b+1)) else some c) n (wr (left-(a.length:Int)),0))
def wj(n:Nat)(a:Prog)(left:Int):Option Int:=((Cs n a.bb left).bind λb=>bif decide (b<0) then some (-1) else(DO n a.parts b).bind λc=>bif decide (c<0) then some (-1) else some c)
def qA(n:Nat)(a:az)(x:Int)(b:az)(y:Int):Option az:=(ba (λe ((d,c):(List Int)×Int)=>bif decide (c<4) then(aH a.ak c).bind λh=>(aH b.ak c).bind λi=>(app d [wr ((wr (x*h))+(wr (y*i)))]).bind λk=>e (k,wr (c+1)) else some (⟨d,wr ((wr (x*a.const))+(wr (y*b.const)))⟩:az)) n ([],0))
def w7(n:Nat)(a:az)(v:Int)(b:az):Option az:=((app [] a.ak).bind λc=>(aH c v).bind λi=>(dh c v 0).bind λd=>(aH a.ak v).bind λe=>(qA n (⟨d,a.const⟩:az) 1 b e).bind λh=>some h)
def qh(n:Nat)(a:az):Option az:=(bif decide ((a.ak.length:Int)=0) then some (⟨[],a.const⟩:az) else(app [] a.ak).bind λb=>some (⟨b,a.const⟩:az))
def Ez(n:Nat)(a:az)(v:Int):Option az:=((qh n a).bind λb=>(aH a.ak (wr (v+1))).bind λd=>(aH b.ak v).bind λi=>(dh b.ak v d).bind λc=>(aH a.ak v).bind λe=>(aH c (wr (v+1))).bind λk=>(dh c (wr (v+1)) e).bind λh=>some (⟨h,b.const⟩:az))
def kH(n:Nat)(a:az)(d v:Int)(b:az):Option az:=(bif decide (d=0) then(Ez n a v).bind λo=>some o else bif decide (d=1) then(w7 n a v b).bind λp=>some p else ba (λq ((e,c):(List Int)×Int)=>bif decide (c<4) then aY (fun(h:(List Int))=>q (h,wr (c+1))) (λi=>bif decide (c<v) then(aH a.ak c).bind λr=>(app e [r]).bind λs=>i s else bif decide (c=v) then(app e [0]).bind λk=>i k else(aH a.ak (wr (c-1))).bind λl=>(app e [l]).bind λm=>i m) else some (⟨e,a.const⟩:az)) n ([],0))
def qV(n:Nat)(a:List az)(c v:Int)(b:az):Option (List az):=(ba (λh ((e,d):(List az)×Int)=>bif decide (d<a.length) then(aH a d).bind λi=>(kH n i c v b).bind λk=>(app e [k]).bind λl=>h (l,wr (d+1)) else some e) n ([],0))
def qD(n:Nat)(a:bR)(c v:Int)(b:az):Option bR:=((qV n a.al c v b).bind λd=>some (⟨a.array,d⟩:bR))
def ns:Nat->Expr->Int->Int->az->Option Expr
 |0,_,_,_,_=>none
 |n+1,e,a,v,b=>(aY (fun((r,s):(List Int)×Int)=>aY (fun((w,x):(List UInt8)×(List az))=>ba (λd ((l,c):(List Expr)×Int)=>bif decide (c<e.aJ.length) then(aH e.aJ c).bind λh=>(ns n h a v b).bind λi=>(app l [i]).bind λk=>d (k,wr (c+1)) else some (⟨e.kind,e.num,(⟨r,s⟩:az),(⟨w,x⟩:bR),l⟩:Expr)) n ([],0)) λm=>bif decide (e.kind=3) then(qD n e.read a v b).bind λo=>m (o.array,o.al) else m ([],[])) λp=>bif decide (e.kind=2) then(kH n e.index a v b).bind λq=>p (q.ak,q.const) else p ([],0))
def xS(n:Nat)(a:List Stmt)(c v:Int)(b:az):Option (List Stmt):=(ba (λi ((e,d):(List Stmt)×Int)=>bif decide (d<a.length) then(aH a d).bind λh=>(qD n h.write c v b).bind λk=>(ns n h.value c v b).bind λl=>(app e [(⟨k,l⟩:Stmt)]).bind λm=>i (m,wr (d+1)) else some e) n ([],0))
def tG(n:Nat)(x:Loop)(a v:Int)(b:az):Option Loop:=((qV n x.bg a v b).bind λc=>(qV n x.aD a v b).bind λd=>some (⟨c,d⟩:Loop))
def xj(n:Nat)(x:Part)(a c v:Int)(b:az):Option Part:=((sub x.nest 0 (wr (a+1))).bind λi=>(app [] i).bind λk=>(xS n x.body c v b).bind λl=>ba (λm ((h,d):(List Loop)×Int)=>bif decide (d<x.nest.length) then(aH x.nest d).bind λo=>(tG n o c v b).bind λp=>(app h [p]).bind λe=>m (e,wr (d+1)) else some (⟨h,l⟩:Part)) n (k,wr (a+1)))
def yM(n:Nat):Option az:=(some (⟨[0,0,0,0],0⟩:az))
def zo(n:Nat)(v:Int):Option az:=((yM n).bind λa=>(aH a.ak v).bind λc=>(dh a.ak v 1).bind λb=>some (⟨b,a.const⟩:az))
def vU(n:Nat)(x:bW):Option bW:=((app [] x.bp).bind λa=>some (⟨x.name,a⟩:bW))
def p9(n:Nat)(a:List bW):Option (List bW):=(ba (λd ((c,b):(List bW)×Int)=>bif decide (b<a.length) then(aH a b).bind λe=>(vU n e).bind λh=>(app c [h]).bind λi=>d (i,wr (b+1)) else some c) n ([],0))
def sK(n:Nat)(x:az):Option az:=((app [] x.ak).bind λa=>some (⟨a,x.const⟩:az))
def om(n:Nat)(a:List az):Option (List az):=(ba (λd ((c,b):(List az)×Int)=>bif decide (b<a.length) then(aH a b).bind λe=>(sK n e).bind λh=>(app c [h]).bind λi=>d (i,wr (b+1)) else some c) n ([],0))
def d5(n:Nat)(x:bR):Option bR:=((om n x.al).bind λa=>some (⟨x.array,a⟩:bR))
def BA(n:Nat)(self:Expr->Option Expr)(a:List Expr):Option (List Expr):=(ba (λd ((c,b):(List Expr)×Int)=>bif decide (b<a.length) then(aH a b).bind λe=>(self e).bind λh=>(app c [h]).bind λi=>d (i,wr (b+1)) else some c) n ([],0))
def ls:Nat->Expr->Option Expr
 |0,_=>none
 |n+1,x=>((sK n x.index).bind λa=>(d5 n x.read).bind λb=>(BA n (ls n) x.aJ).bind λc=>some (⟨x.kind,x.num,a,b,c⟩:Expr))
def sR(n:Nat)(x:Stmt):Option Stmt:=((d5 n x.write).bind λa=>(ls n x.value).bind λb=>some (⟨a,b⟩:Stmt))
def p'(n:Nat)(a:List Stmt):Option (List Stmt):=(ba (λd ((c,b):(List Stmt)×Int)=>bif decide (b<a.length) then(aH a b).bind λe=>(sR n e).bind λh=>(app c [h]).bind λi=>d (i,wr (b+1)) else some c) n ([],0))
def vZ(n:Nat)(x:Loop):Option Loop:=((om n x.bg).bind λa=>(om n x.aD).bind λb=>some (⟨a,b⟩:Loop))
def qb(n:Nat)(a:List Loop):Option (List Loop):=(ba (λd ((c,b):(List Loop)×Int)=>bif decide (b<a.length) then(aH a b).bind λe=>(vZ n e).bind λh=>(app c [h]).bind λi=>d (i,wr (b+1)) else some c) n ([],0))
def sS(n:Nat)(x:Part):Option Part:=((qb n x.nest).bind λa=>(p' n x.body).bind λb=>some (⟨a,b⟩:Part))
def qa(n:Nat)(a:List Part):Option (List Part):=(ba (λd ((c,b):(List Part)×Int)=>bif decide (b<a.length) then(aH a b).bind λe=>(sS n e).bind λh=>(app c [h]).bind λi=>d (i,wr (b+1)) else some c) n ([],0))
def qd(n:Nat)(x:Prog):Option Prog:=((p9 n x.bb).bind λa=>(qa n x.parts).bind λb=>some (⟨a,b⟩:Prog))
def wJ(n:Nat)(a:List bW):Option Bool:=(ba (λl (d:Int)=>bif decide (d<a.length) then(aH a d).bind λb=>aY (fun(m:Bool)=>bif m then some false else ba (λo (h:Int)=>bif decide (h<b.bp.length) then aY (fun(i:Bool)=>bif i then some false else o (wr (h+1))) (λk=>(aH b.bp h).bind λe=>bif decide (e<1) then k true else k (decide ((6:Int)<e))) else l (wr (d+1))) n 0) (λc=>bif !decide ((b.name.length:Int)=1) then c true else bif Op.bytesLess b.name [65] then c true else bif(!Op.bytesLess b.name [68]&& !b.name==[68]) then c true else bif decide ((0:Int)<d) then(aH a (wr (d-1))).bind λp=>bif !Op.bytesLess p.name b.name then c true else bif decide ((b.bp.length:Int)<1) then c true else c (decide ((2:Int)<b.bp.length)) else bif decide ((b.bp.length:Int)<1) then c true else c (decide ((2:Int)<b.bp.length))) else some (decide ((a.length:Int)<=4))) n 0)
def l3(n:Nat)(a:az):Option Int:=(ba (λe ((c,b):Int×Int)=>bif decide (b<a.ak.length) then aY (fun(h:Int)=>e (h,wr (b+1))) (λd=>(aH a.ak b).bind λi=>bif !decide (i=0) then d (wr (b+1)) else d c) else some c) n (0,0))
def qE(n:Nat)(a b:Int):Option Bool:=(aY (fun(d:Bool)=>some d) λc=>bif decide (wr (0-b)<=a) then c (decide (a<=b)) else c false)
def qk(n:Nat)(a:az):Option Bool:=(ba (λd (b:Int)=>bif decide (b<a.ak.length) then(aH a.ak b).bind λe=>(qE n e 9).bind λh=>bif !h then some false else d (wr (b+1)) else aY (fun(i:Bool)=>some i) λc=>bif decide ((a.ak.length:Int)=4) then(qE n a.const 99).bind λk=>c k else c false) n 0)
def tJ(n:Nat)(a:List az)(b:Int):Option Bool:=(ba (λi (c:Int)=>bif decide (c<a.length) then aY (fun(k:Bool)=>bif k then some false else i (wr (c+1))) (λd=>(aH a c).bind λe=>(qk n e).bind λl=>bif !l then d true else(l3 n e).bind λm=>d (decide (b<m))) else aY (fun(o:Bool)=>some o) λh=>bif decide ((1:Int)<=a.length) then h (decide ((a.length:Int)<=2)) else h false) n 0)
def wq(n:Nat)(a:List Loop):Option Bool:=(ba (λh (b:Int)=>aY (fun(i:Bool)=>bif i then aY (fun(k:Bool)=>bif k then some false else h (wr (b+1))) (λc=>(aH a b).bind λd=>(tJ n d.bg b).bind λl=>bif !l then c true else(tJ n d.aD b).bind λm=>c (!m)) else some (decide ((a.length:Int)<=4))) λe=>bif decide (b<a.length) then e (decide ((a.length:Int)<=4)) else e false) n 0)
def lg(n:Nat)(a:az)(b:List Int):Option Int:=(ba (λh ((d,c):Int×Int)=>aY (fun(i:Bool)=>bif i then(aH a.ak c).bind λk=>(aH b c).bind λl=>h (wr (d+(wr (k*l))),wr (c+1)) else some d) λe=>bif decide (c<b.length) then e (decide (c<a.ak.length)) else e false) n (a.const,0))
def tq(n:Nat)(a:Loop)(p:List Int):Option (Int×Int):=((aH a.bg 0).bind λs=>(lg n s p).bind λv=>(aH a.aD 0).bind λw=>(lg n w p).bind λx=>ba (λy ((i,k):Int×Int)=>bif decide (k<a.bg.length) then aY (fun(l:Int)=>y (l,wr (k+1))) (λr=>(aH a.bg k).bind λz=>(lg n z p).bind λd=>bif decide (i<d) then r d else r i) else ba (λm ((b,c):Int×Int)=>bif decide (c<a.aD.length) then aY (fun(o:Int)=>m (o,wr (c+1))) (λe=>(aH a.aD c).bind λq=>(lg n q p).bind λh=>bif decide (h<b) then e h else e b) else some (i,b)) n (x,1)) n (v,1))
def nn:Nat->(List Loop)->(List Int)->Int->Option Int
 |0,_,_,_=>none
 |n+1,nest,p,a=>(bif decide ((p.length:Int)=nest.length) then some 1 else(aH nest p.length).bind λi=>(tq n i p).bind λe=>ba (λk ((b,c):Int×Int)=>aY (fun(l:Bool)=>bif l then(app [] p).bind λm=>(app m [c]).bind λo=>(nn n nest o (wr (a-b))).bind λd=>k (wr (b+d),wr (c+1)) else some b) λh=>bif decide (c<e.2) then h (decide (b<=a)) else h false) n (1,e.1))
def mg:Nat->(List (List Int))->(List Loop)->(List Int)->Option (List (List Int))
 |0,_,_,_=>none
 |n+1,out,nest,p=>(bif decide ((p.length:Int)=nest.length) then(app [] p).bind λl=>(app out [l]).bind λm=>some m else(aH nest p.length).bind λo=>(tq n o p).bind λi=>ba (λq ((a,b):(List (List Int))×Int)=>aY (fun(c:Bool)=>bif c then(app [] p).bind λd=>(app d [b]).bind λe=>(mg n a nest e).bind λh=>q (h,wr (b+1)) else some a) λk=>bif decide (b<i.2) then k (decide ((a.length:Int)<=120)) else k false) n (out,i.1))
def v7(n:Nat)(a:List Loop):Option ((List (List Int))×Bool):=(aY (fun(d:Bool)=>bif d then some ([],false) else(mg n [] a []).bind λb=>bif decide ((120:Int)<b.length) then some ([],false) else some (b,true)) λc=>(wq n a).bind λe=>bif !e then c true else(nn n a [] 1200).bind λh=>c (decide ((1200:Int)<h)))
def ta(n:Nat)(a:bR)(b:Int):Option Bool:=(ba (λi (d:Int)=>bif decide (d<a.al.length) then aY (fun(k:Bool)=>bif k then some false else i (wr (d+1))) (λe=>(aH a.al d).bind λh=>(qk n h).bind λl=>bif !l then e true else(l3 n h).bind λm=>e (decide (b<m))) else aY (fun(o:Bool)=>some o) λc=>bif decide ((a.array.length:Int)=1) then bif !Op.bytesLess a.array [65] then bif(Op.bytesLess a.array [68]||a.array==[68]) then bif decide ((1:Int)<=a.al.length) then c (decide ((a.al.length:Int)<=2)) else c false else c false else c false else c false) n 0)
def xY(n:Nat)(a:Int):Option Int:=(aY (fun(d:Bool)=>bif d then some 0 else aY (fun(e:Bool)=>bif e then some 2 else some (-1)) λb=>bif decide (a=4) then b (decide (a=4)) else bif decide (a=5) then b (decide (a=5)) else b (decide (a=6))) λc=>bif decide (a=1) then c (decide (a=1)) else bif decide (a=2) then c (decide (a=2)) else c (decide (a=3)))
def qL(n:Nat)(a:bR):Option Bool:=(aY (fun(c:Bool)=>some c) λb=>bif decide (a.array=[]) then b (decide ((a.al.length:Int)=0)) else b false)
def qW(n:Nat)(a:az):Option Bool:=(aY (fun(c:Bool)=>some c) λb=>bif decide ((a.ak.length:Int)=0) then b (decide (a.const=0)) else b false)
def uo(n:Nat)(e:Expr)(a:Int):Option Bool:=(bif decide (e.kind=2) then aY (fun(q:Bool)=>some q) (λd=>bif decide (e.num=0) then(qL n e.read).bind λr=>bif r then(qk n e.index).bind λs=>bif s then(l3 n e.index).bind λv=>d (decide (v<=a)) else d false else d false else d false) else bif decide (e.kind=3) then aY (fun(w:Bool)=>some w) (λh=>bif decide (e.num=0) then(qW n e.index).bind λx=>bif x then(ta n e.read a).bind λy=>h y else h false else h false) else bif decide (e.kind=1) then aY (fun(i:Bool)=>some i) (λb=>bif decide ((0:Int)<=e.num) then bif decide (e.num<=99) then(qW n e.index).bind λk=>bif k then(qL n e.read).bind λl=>b l else b false else b false else b false) else aY (fun(m:Bool)=>some m) λc=>bif decide (e.num=0) then(qW n e.index).bind λo=>bif o then(qL n e.read).bind λp=>c p else c false else c false)
def nr:Nat->Expr->Int->Int->Option Bool
 |0,_,_,_=>none
 |n+1,e,b,a=>(aY (fun(h:Bool)=>bif h then some false else ba (λi (c:Int)=>bif decide (c<e.aJ.length) then(aH e.aJ c).bind λk=>(nr n k b (wr (a-1))).bind λl=>bif !l then some false else i (wr (c+1)) else some true) n 0) λd=>bif decide (a<1) then d true else(xY n e.kind).bind λm=>bif !decide (m=e.aJ.length) then d true else(uo n e b).bind λo=>d (!o))
def o':Nat->Expr->Int->Option Int
 |0,_,_=>none
 |n+1,e,a=>(ba (λh ((c,b):Int×Int)=>aY (fun(i:Bool)=>bif i then(aH e.aJ b).bind λk=>(o' n k (wr (a-1))).bind λl=>h (wr (c+l),wr (b+1)) else some c) λd=>bif decide (b<e.aJ.length) then d (decide ((0:Int)<a)) else d false) n (1,0))
def wo(n:Nat)(s:Stmt)(a:Int):Option Bool:=(aY (fun(c:Bool)=>bif c then some false else(o' n s.value 5).bind λd=>some (decide (d<=12))) λb=>bif decide (a<0) then b true else bif decide ((4:Int)<a) then b true else(ta n s.write a).bind λe=>bif !e then b true else(nr n s.value a 5).bind λh=>b (!h))
def qi(n:Nat)(a:bR):Option bR:=(ba (λd ((c,b):(List az)×Int)=>bif decide (b<a.al.length) then(aH a.al b).bind λe=>(qh n e).bind λh=>(app c [h]).bind λi=>d (i,wr (b+1)) else some (⟨a.array,c⟩:bR)) n ([],0))
def pa:Nat->(List bR)->Expr->Option (List bR)
 |0,_,_=>none
 |n+1,out,e=>(aY (fun(i:(List bR))=>ba (λk ((d,a):(List bR)×Int)=>bif decide (a<e.aJ.length) then(aH e.aJ a).bind λb=>(pa n d b).bind λc=>k (c,wr (a+1)) else some d) n (i,0)) λh=>bif decide (e.kind=3) then(qi n e.read).bind λl=>(app out [l]).bind λm=>h m else h out)
def xW(n:Nat)(a:bW):Option Int:=(ba (λd ((c,b):Int×Int)=>bif decide (b<a.bp.length) then(aH a.bp b).bind λe=>d (wr (c*e),wr (b+1)) else some c) n (1,0))
def tI(n:Nat)(b:List bW)(a:bR)(c:List Int):Option Int:=(ba (λr ((p,k):Int×Int)=>bif decide (k<b.length) then(aH b k).bind λe=>bif !decide (e.name=a.array) then(xW n e).bind λs=>r (wr (p+s),wr (k+1)) else ba (λv ((q,h):Int×Int)=>bif decide (h<a.al.length) then bif !decide ((a.al.length:Int)=e.bp.length) then some (-1) else(aH a.al h).bind λw=>(lg n w c).bind λd=>aY (fun(l:Bool)=>bif l then some (-1) else(aH e.bp h).bind λm=>v (wr ((wr (q*m))+d),wr (h+1))) (λi=>bif decide (d<0) then i true else(aH e.bp h).bind λo=>i (decide (o<=d))) else some (wr (p+q))) n (0,0) else some (-1)) n (0,0))
def qK(n:Nat)(b:List bW)(s:Stmt)(a:List Int):Option ((List Int)×Int×Bool):=((pa n [] s.value).bind λd=>ba (λk ((e,c):(List Int)×Int)=>bif decide (c<d.length) then(aH d c).bind λl=>(tI n b l a).bind λh=>bif decide (h<0) then some ([],0,false) else(app e [h]).bind λm=>k (m,wr (c+1)) else(tI n b s.write a).bind λi=>bif decide (i<0) then some ([],0,false) else some (e,i,true)) n ([],0))
def w8(n:Nat)(p:List Int):Option Bool:=(ba (λb (a:Int)=>bif decide (a<p.length) then(aH p a).bind λc=>(qE n c 9999).bind λd=>bif !d then some false else b (wr (a+1)) else some (decide ((p.length:Int)<=4))) n 0)
def xX(n:Nat)(b:List bW)(a:Part):Option (Int×Bool):=((v7 n a.nest).bind λe=>aY (fun(q:Bool)=>bif q then some (0,false) else ba (λr (h:Int)=>bif decide (h<a.body.length) then(aH a.body h).bind λp=>(wo n p a.nest.length).bind λs=>bif !s then some (0,false) else ba (λv (i:Int)=>bif decide (i<e.1.length) then(aH e.1 i).bind λc=>(qK n b p c).bind λk=>aY (fun(l:Bool)=>bif l then some (0,false) else v (wr (i+1))) (λd=>bif !k.2.2 then d true else(w8 n c).bind λm=>d (!m)) else r (wr (h+1))) n 0 else some (wr ((e.1.length:Int)*(a.body.length:Int)),true)) n 0) λo=>bif !e.2 then o true else bif decide ((a.body.length:Int)<1) then o true else o (decide ((4:Int)<a.body.length)))
def sL(n:Nat)(p:Prog):Option Bool:=(aY (fun(e:Bool)=>bif e then some false else ba (λh ((b,a):Int×Int)=>bif decide (a<p.parts.length) then(aH p.parts a).bind λi=>(xX n p.bb i).bind λc=>bif !c.2 then some false else h (wr (b+c.1),wr (a+1)) else some (decide (b<=120))) n (0,0)) λd=>(wJ n p.bb).bind λk=>bif !k then d true else d (decide ((4:Int)<p.parts.length)))
def rm(n:Nat)(p:Prog)(a b:Int):Option Bool:=(aY (fun(d:Bool)=>some d) λc=>(sL n p).bind λe=>bif e then bif decide ((0:Int)<=a) then bif decide (a<p.parts.length) then bif decide ((0:Int)<=b) then(aH p.parts a).bind λh=>c (decide (b<h.nest.length)) else c false else c false else c false else c false)
def t6(n:Nat)(a:List Loop):Option (List Loop):=(ba (λw ((s,i):(List Loop)×Int)=>bif decide (i<a.length) then ba (λx ((v,k):(List az)×Int)=>(aH a i).bind λh=>bif decide (k<h.bg.length) then(aH h.bg k).bind λc=>(app [] c.ak).bind λl=>(app v [(⟨l,c.const⟩:az)]).bind λm=>x (m,wr (k+1)) else ba (λo ((d,b):(List az)×Int)=>bif decide (b<h.aD.length) then(aH h.aD b).bind λe=>(app [] e.ak).bind λp=>(app d [(⟨p,e.const⟩:az)]).bind λq=>o (q,wr (b+1)) else(app s [(⟨v,d⟩:Loop)]).bind λr=>w (r,wr (i+1))) n ([],0)) n ([],0) else some s) n ([],0))
def np:Nat->Expr->Option Expr
 |0,_=>none
 |n+1,e=>((qh n e.index).bind λc=>(qi n e.read).bind λd=>ba (λh ((b,a):(List Expr)×Int)=>bif decide (a<e.aJ.length) then(aH e.aJ a).bind λi=>(np n i).bind λk=>(app b [k]).bind λl=>h (l,wr (a+1)) else some (⟨e.kind,e.num,c,d,b⟩:Expr)) n ([],0))
def qX(n:Nat)(s:Stmt):Option Stmt:=((qi n s.write).bind λa=>(np n s.value).bind λb=>some (⟨a,b⟩:Stmt))
def tH(n:Nat)(p:Prog):Option Prog:=(ba (λw ((r,d):(List bW)×Int)=>bif decide (d<p.bb.length) then(aH p.bb d).bind λs=>(app [] s.bp).bind λx=>(app r [(⟨s.name,x⟩:bW)]).bind λy=>w (y,wr (d+1)) else ba (λe ((v,h):(List Part)×Int)=>bif decide (h<p.parts.length) then(aH p.parts h).bind λa=>(t6 n a.nest).bind λi=>ba (λk ((c,b):(List Stmt)×Int)=>bif decide (b<a.body.length) then(aH a.body b).bind λl=>(qX n l).bind λm=>(app c [m]).bind λo=>k (o,wr (b+1)) else(app v [(⟨i,c⟩:Part)]).bind λq=>e (q,wr (h+1))) n ([],0) else some (⟨r,v⟩:Prog)) n ([],0)) n ([],0))
def xQ(n:Nat)(p:Prog)(a c:Int)(b:List Part):Option (Prog×Bool):=((tH n p).bind λd=>(sub d.parts 0 a).bind λh=>(app [] h).bind λi=>(app i b).bind λk=>(sub d.parts (wr (a+c)) (d.parts.length:Int)).bind λl=>(app k l).bind λe=>(sL n (⟨d.bb,e⟩:Prog)).bind λm=>bif !m then some ((⟨[],[]⟩:Prog),false) else(tH n (⟨d.bb,e⟩:Prog)).bind λo=>some (o,true))
def tC(n:Nat)(a:List Int):Option (List Int):=((mk a.length 0).bind λd=>ba (λe ((c,b):(List Int)×Int)=>bif decide (b<a.length) then(aH a b).bind λh=>(aH c b).bind λk=>(dh c b h).bind λi=>e (i,wr (b+1)) else some c) n (d,0))
def xh(n:Nat)(a:bW):Option bW:=((tC n a.bp).bind λb=>some (⟨a.name,b⟩:bW))
def Cr(n:Nat)(a:List bW):Option (List bW):=((mk a.length (⟨[],[]⟩:bW)).bind λd=>ba (λe ((c,b):(List bW)×Int)=>bif decide (b<a.length) then(aH a b).bind λh=>(xh n h).bind λi=>(aH c b).bind λl=>(dh c b i).bind λk=>e (k,wr (b+1)) else some c) n (d,0))
def s4(n:Nat)(a:az):Option az:=((tC n a.ak).bind λb=>some (⟨b,a.const⟩:az))
def sU(n:Nat)(a:List az):Option (List az):=((mk a.length (⟨[],0⟩:az)).bind λd=>ba (λe ((c,b):(List az)×Int)=>bif decide (b<a.length) then(aH a b).bind λh=>(s4 n h).bind λi=>(aH c b).bind λl=>(dh c b i).bind λk=>e (k,wr (b+1)) else some c) n (d,0))
def s6(n:Nat)(a:bR):Option bR:=((sU n a.al).bind λb=>some (⟨a.array,b⟩:bR))
def yb(n:Nat)(self:Expr->Option Expr)(a:List Expr):Option (List Expr):=((mk a.length (⟨0,0,(⟨[],0⟩:az),(⟨[],[]⟩:bR),[]⟩:Expr)).bind λd=>ba (λe ((c,b):(List Expr)×Int)=>bif decide (b<a.length) then(aH a b).bind λh=>(self h).bind λi=>(aH c b).bind λl=>(dh c b i).bind λk=>e (k,wr (b+1)) else some c) n (d,0))
def mo:Nat->Expr->Option Expr
 |0,_=>none
 |n+1,a=>((s4 n a.index).bind λb=>(s6 n a.read).bind λc=>(yb n (mo n) a.aJ).bind λd=>some (⟨a.kind,a.num,b,c,d⟩:Expr))
def xH(n:Nat)(a:Stmt):Option Stmt:=((s6 n a.write).bind λb=>(mo n a.value).bind λc=>some (⟨b,c⟩:Stmt))
def x9(n:Nat)(a:List Stmt):Option (List Stmt):=((mk a.length (⟨(⟨[],[]⟩:bR),(⟨0,0,(⟨[],0⟩:az),(⟨[],[]⟩:bR),[]⟩:Expr)⟩:Stmt)).bind λd=>ba (λe ((c,b):(List Stmt)×Int)=>bif decide (b<a.length) then(aH a b).bind λh=>(xH n h).bind λi=>(aH c b).bind λl=>(dh c b i).bind λk=>e (k,wr (b+1)) else some c) n (d,0))
def xJ(n:Nat)(a:Loop):Option Loop:=((sU n a.bg).bind λb=>(sU n a.aD).bind λc=>some (⟨b,c⟩:Loop))
def ya(n:Nat)(a:List Loop):Option (List Loop):=((mk a.length (⟨[],[]⟩:Loop)).bind λd=>ba (λe ((c,b):(List Loop)×Int)=>bif decide (b<a.length) then(aH a b).bind λh=>(xJ n h).bind λi=>(aH c b).bind λl=>(dh c b i).bind λk=>e (k,wr (b+1)) else some c) n (d,0))
def xI(n:Nat)(a:Part):Option Part:=((ya n a.nest).bind λb=>(x9 n a.body).bind λc=>some (⟨b,c⟩:Part))
def x'(n:Nat)(a:List Part):Option (List Part):=((mk a.length (⟨[],[]⟩:Part)).bind λd=>ba (λe ((c,b):(List Part)×Int)=>bif decide (b<a.length) then(aH a b).bind λh=>(xI n h).bind λi=>(aH c b).bind λl=>(dh c b i).bind λk=>e (k,wr (b+1)) else some c) n (d,0))
def kA(n:Nat)(a:Prog):Option Prog:=((Cr n a.bb).bind λb=>(x' n a.parts).bind λc=>some (⟨b,c⟩:Prog))
def fL(n:Nat)(a low high:Int):Option Bool:=(aY (fun(c:Bool)=>some c) λb=>bif decide (low<=a) then b (decide (a<=high)) else b false)
def mK(n:Nat)(p:Prog)(a:Int):Option Bool:=((fL n a 0 (wr ((p.parts.length:Int)-1))).bind λb=>some b)
def BD(n:Nat)(p:Prog)(a b:Int):Option Bool:=(aY (fun(d:Bool)=>some d) λc=>(mK n p a).bind λe=>bif e then(aH p.parts a).bind λh=>(fL n b 0 (wr ((h.nest.length:Int)-1))).bind λi=>c i else c false)
def jP(n:Nat)(a:az):Option az:=((ht a.ak).bind λb=>some (⟨b,a.const⟩:az))
def mN(n:Nat)(a:List az):Option (List az):=(ba (λd ((c,b):(List az)×Int)=>bif decide (b<a.length) then(aH a b).bind λe=>(jP n e).bind λh=>(app c [h]).bind λi=>d (i,wr (b+1)) else some c) n ([],0))
def tt(n:Nat)(a:List Loop):Option (List Loop):=(ba (λe ((c,b):(List Loop)×Int)=>bif decide (b<a.length) then(aH a b).bind λd=>(mN n d.bg).bind λh=>(mN n d.aD).bind λi=>(app c [(⟨h,i⟩:Loop)]).bind λk=>e (k,wr (b+1)) else some c) n ([],0))
def oP(n:Nat)(a:bR)(change:az->Option az):Option bR:=(ba (λd ((c,b):(List az)×Int)=>bif decide (b<a.al.length) then(aH a.al b).bind λe=>(change e).bind λh=>(app c [h]).bind λi=>d (i,wr (b+1)) else some (⟨a.array,c⟩:bR)) n ([],0))
def js:Nat->Expr->(az->Option az)->Option Expr
 |0,_,_=>none
 |n+1,e,change=>(aY (fun((o,p,q,r):(List Int)×Int×(List UInt8)×(List az))=>ba (λa ((k,b):(List Expr)×Int)=>bif decide (b<e.aJ.length) then(aH e.aJ b).bind λc=>(js n c change).bind λd=>(app k [d]).bind λh=>a (h,wr (b+1)) else some (⟨e.kind,e.num,(⟨o,p⟩:az),(⟨q,r⟩:bR),k⟩:Expr)) n ([],0)) λi=>bif decide (e.kind=2) then(change e.index).bind λl=>i (l.ak,l.const,[],[]) else bif decide (e.kind=3) then(oP n e.read change).bind λm=>i ([],0,m.array,m.al) else i ([],0,[],[]))
def i8(n:Nat)(s:Stmt)(change:az->Option az):Option Stmt:=((oP n s.write change).bind λa=>(js n s.value change).bind λb=>some (⟨a,b⟩:Stmt))
def ts(n:Nat)(s:Stmt):Option Stmt:=((i8 n s λa=>jP n a).bind λb=>some b)
def qN(n:Nat)(p:Part):Option Part:=((tt n p.nest).bind λc=>ba (λd ((b,a):(List Stmt)×Int)=>bif decide (a<p.body.length) then(aH p.body a).bind λe=>(ts n e).bind λh=>(app b [h]).bind λi=>d (i,wr (a+1)) else some (⟨c,b⟩:Part)) n ([],0))
def qm(n:Nat)(p:Prog):Option Prog:=(ba (λm ((i,a):(List bW)×Int)=>bif decide (a<p.bb.length) then(aH p.bb a).bind λk=>(ht k.bp).bind λo=>(app i [(⟨k.name,o⟩:bW)]).bind λq=>m (q,wr (a+1)) else ba (λb ((l,c):(List Part)×Int)=>bif decide (c<p.parts.length) then(aH p.parts c).bind λd=>(qN n d).bind λe=>(app l [e]).bind λh=>b (h,wr (c+1)) else some (⟨i,l⟩:Prog)) n ([],0)) n ([],0))
def mO(n:Nat)(a:Int):Option Bool:=((fL n a 1 6).bind λb=>some (!b))
def tv(n:Nat)(s:List UInt8):Option Bool:=(aY (fun(b:Bool)=>some b) λa=>bif decide ((s.length:Int)=1) then(s3 [65,66,67,68] s).bind λc=>a c else a false)
def si(n:Nat)(s:List Int)(f:Int->Option Bool):Option Int:=(ba (λb (a:Int)=>bif decide (a<s.length) then(aH s a).bind λc=>(f c).bind λd=>bif d then some a else b (wr (a+1)) else some (-1)) n 0)
def lP(n:Nat)(s:List Int)(f:Int->Option Bool):Option Bool:=((si n s f).bind λa=>some (decide ((0:Int)<=a)))
def wV(n:Nat)(a:List bW):Option Bool:=(ba (λk (d:Int)=>bif decide (d<a.length) then(aH a d).bind λb=>aY (fun(e:Bool)=>bif e then some false else k (wr (d+1))) (λc=>(tv n b.name).bind λl=>bif !l then c true else bif decide ((0:Int)<d) then(aH a (wr (d-1))).bind λm=>bif !Op.bytesLess m.name b.name then c true else(fL n b.bp.length 1 2).bind λo=>bif !o then c true else(lP n b.bp λh=>mO n h).bind λi=>c i else(fL n b.bp.length 1 2).bind λp=>bif !p then c true else(lP n b.bp λh=>mO n h).bind λq=>c q) else some (decide ((a.length:Int)<=4))) n 0)
def f5(n:Nat)(s:List az)(f:az->Option Bool):Option Int:=(ba (λb (a:Int)=>bif decide (a<s.length) then(aH s a).bind λc=>(f c).bind λd=>bif d then some a else b (wr (a+1)) else some (-1)) n 0)
def oj(n:Nat)(s:List az)(f:az->Option Bool):Option Bool:=((f5 n s f).bind λa=>some (decide ((0:Int)<=a)))
def ot(n:Nat)(a:az):Option Int:=(ba (λd (b:Int)=>aY (fun(e:Bool)=>bif e then d (wr (b-1)) else some b) λc=>bif decide ((0:Int)<b) then(aH a.ak (wr (b-1))).bind λh=>c (decide (h=0)) else c false) n a.ak.length)
def yu(n:Nat)(a:Int):Option Bool:=((fL n a (-99) 99).bind λb=>some b)
def sj(n:Nat)(c:Int):Option Bool:=((fL n c (-9) 9).bind λa=>some (!a))
def qn(n:Nat)(a:az):Option Bool:=(aY (fun(c:Bool)=>some c) λb=>bif decide ((a.ak.length:Int)=4) then(yu n a.const).bind λd=>bif d then(lP n a.ak λe=>sj n e).bind λh=>b (!h) else b false else b false)
def qw(n:Nat)(a:az)(b:Int):Option Bool:=(aY (fun(d:Bool)=>some d) λc=>(qn n a).bind λe=>bif !e then c true else(ot n a).bind λh=>c (decide (b<h)))
def tf(n:Nat)(a:List az)(b:Int):Option Bool:=(aY (fun(d:Bool)=>some d) λc=>(fL n a.length 1 2).bind λe=>bif e then(oj n a λh=>qw n h b).bind λi=>c (!i) else c false)
def wB(n:Nat)(a:List Loop):Option Bool:=(ba (λe (b:Int)=>bif decide (b<a.length) then(aH a b).bind λc=>aY (fun(h:Bool)=>bif h then some false else e (wr (b+1))) (λd=>(tf n c.bg b).bind λi=>bif !i then d true else(tf n c.aD b).bind λk=>d (!k)) else some (decide ((a.length:Int)<=4))) n 0)
def k2(n:Nat)(a:az)(b:List Int):Option Int:=(ba (λe ((d,c):Int×Int)=>bif decide (c<b.length) then(aH b c).bind λh=>(aH a.ak c).bind λi=>e (wr (d+(wr (i*h))),wr (c+1)) else some d) n (a.const,0))
def wC(n:Nat)(l:Loop)(a:List Int):Option (Int×Int):=((aH l.bg 0).bind λm=>(k2 n m a).bind λo=>(aH l.aD 0).bind λp=>(k2 n p a).bind λq=>ba (λr ((k,d):Int×Int)=>bif decide (d<l.bg.length) then(aH l.bg d).bind λs=>(k2 n s a).bind λv=>r (max k v,wr (d+1)) else ba (λe ((c,b):Int×Int)=>bif decide (b<l.aD.length) then(aH l.aD b).bind λh=>(k2 n h a).bind λi=>e (min c i,wr (b+1)) else some (k,c)) n (q,0)) n (o,0))
def mW:Nat->kx->(List Int)->Option (Bool×kx)
 |0,_,_=>none
 |n+1,a,b=>(bif decide ((b.length:Int)=a.nest.length) then(ht b).bind λx=>(app a.out [x]).bind λv=>some (decide ((v.length:Int)<=120),(⟨a.nest,a.steps,v⟩:kx)) else(aH a.nest b.length).bind λy=>(wC n y b).bind λw=>ba (λl ((m,k,o,p):(List Loop)×Int×(List (List Int))×Int)=>bif decide (p<w.2) then aY (fun((d,e,h,q):(List Loop)×Int×(List (List Int))×Bool)=>bif q then some (false,(⟨d,e,h⟩:kx)) else l (d,e,h,wr (p+1))) (λi=>bif decide ((1200:Int)<wr ((wr (k+1))+1)) then i (m,wr (k+1),o,true) else(ht b).bind λr=>(app r [p]).bind λs=>(mW n (⟨m,wr (k+1),o⟩:kx) s).bind λc=>i (c.2.nest,c.2.steps,c.2.out, !c.1)) else some (true,(⟨m,k,o⟩:kx))) n (a.nest,a.steps,a.out,w.1))
def m9(n:Nat)(a:List Loop):Option ((List (List Int))×Bool):=((wB n a).bind λc=>bif !c then some ([],false) else(mW n (⟨a,0,[]⟩:kx) []).bind λb=>bif !b.1 then some ([],false) else some (b.2.out,true))
def BC(n:Nat)(s:List Stmt)(f:Stmt->Option Bool):Option Int:=(ba (λb (a:Int)=>bif decide (a<s.length) then(aH s a).bind λc=>(f c).bind λd=>bif d then some a else b (wr (a+1)) else some (-1)) n 0)
def vx(n:Nat)(s:List Stmt)(f:Stmt->Option Bool):Option Bool:=((BC n s f).bind λa=>some (decide ((0:Int)<=a)))
def sT(n:Nat)(s:az)(a:Int):Option Bool:=(aY (fun(c:Bool)=>some c) λb=>(qn n s).bind λd=>bif !d then b true else(ot n s).bind λe=>b (decide (a<e)))
def tg(n:Nat)(a:bR)(b:Int):Option Bool:=(aY (fun(d:Bool)=>some d) λc=>(tv n a.array).bind λe=>bif e then(fL n a.al.length 1 2).bind λh=>bif h then(oj n a.al λi=>sT n i b).bind λk=>c (!k) else c false else c false)
def tc(n:Nat)(a:az):Option Bool:=(aY (fun(c:Bool)=>some c) λb=>bif decide ((a.ak.length:Int)=0) then b (decide (a.const=0)) else b false)
def oS(n:Nat)(a:bR):Option Bool:=(aY (fun(c:Bool)=>some c) λb=>bif decide (a.array=[]) then b (decide ((a.al.length:Int)=0)) else b false)
def uP(n:Nat)(a:Int):Option Bool:=((fL n a 4 6).bind λb=>some b)
def l4:Nat->Expr->Int->Int->Int->Option (Bool×Int)
 |0,_,_,_,_=>none
 |n+1,e,a,b,count=>(aY (fun(H:Bool)=>bif H then some (false,wr (count+1)) else aY (fun(p:Bool)=>bif p then some (false,wr (count+1)) else bif decide (e.kind=1) then aY (fun(q:Bool)=>some (q,wr (count+1))) (λi=>(fL n e.num 0 99).bind λr=>bif r then i (decide ((e.aJ.length:Int)=0)) else i false) else bif decide (e.kind=2) then aY (fun(s:Bool)=>some (s,wr (count+1))) (λd=>(qn n e.index).bind λv=>bif v then(ot n e.index).bind λw=>bif decide (w<=a) then d (decide ((e.aJ.length:Int)=0)) else d false else d false) else bif decide (e.kind=3) then aY (fun(x:Bool)=>some (x,wr (count+1))) (λk=>(tg n e.read a).bind λy=>bif y then k (decide ((e.aJ.length:Int)=0)) else k false) else aY (fun(z:Bool)=>bif z then some (false,wr (count+1)) else aY (fun((A,B):Int×Bool)=>some (B,A)) λl=>(aH e.aJ 0).bind λC=>(l4 n C a (wr (b+1)) (wr (count+1))).bind λh=>bif h.1 then(aH e.aJ 1).bind λD=>(l4 n D a (wr (b+1)) h.2).bind λm=>l (m.2,m.1) else l (h.2,false)) λo=>(uP n e.kind).bind λF=>bif !F then o true else o (!decide ((e.aJ.length:Int)=2))) λc=>bif !decide (e.kind=1) then bif !decide (e.num=0) then c true else bif !decide (e.kind=2) then(tc n e.index).bind λK=>bif !K then c true else bif !decide (e.kind=3) then(oS n e.read).bind λL=>c (!L) else c false else bif !decide (e.kind=3) then(oS n e.read).bind λQ=>c (!Q) else c false else bif !decide (e.kind=2) then(tc n e.index).bind λR=>bif !R then c true else bif !decide (e.kind=3) then(oS n e.read).bind λW=>c (!W) else c false else bif !decide (e.kind=3) then(oS n e.read).bind λX=>c (!X) else c false) λG=>bif decide ((12:Int)<wr (count+1)) then G true else G (decide ((5:Int)<b)))
def wA(n:Nat)(s:Stmt)(a:Int):Option Bool:=(aY (fun((i,d):Int×Bool)=>some d) λb=>(fL n a 0 4).bind λe=>bif e then(tg n s.write a).bind λh=>bif h then(l4 n s.value a 1 0).bind λc=>b (c.2,c.1) else b (0,false) else b (0,false))
def r8(n:Nat)(s:Stmt)(a:Part):Option Bool:=((wA n s a.nest.length).bind λb=>some (!b))
def sY(n:Nat)(a:Int):Option Bool:=((fL n a (-9999) 9999).bind λb=>some (!b))
def xx(n:Nat)(a:List Int):Option Bool:=(aY (fun(c:Bool)=>some c) λb=>bif decide ((a.length:Int)<=4) then(lP n a λd=>sY n d).bind λe=>b (!e) else b false)
def Bw(n:Nat)(s:List bR)(f:bR->Option Bool):Option Int:=(ba (λb (a:Int)=>bif decide (a<s.length) then(aH s a).bind λc=>(f c).bind λd=>bif d then some a else b (wr (a+1)) else some (-1)) n 0)
def vp(n:Nat)(s:List bR)(f:bR->Option Bool):Option Bool:=((Bw n s f).bind λa=>some (decide ((0:Int)<=a)))
def mV:Nat->Expr->Option (List bR)
 |0,_=>none
 |n+1,e=>(bif decide (e.kind=3) then some [e.read] else ba (λc ((b,a):(List bR)×Int)=>bif decide (a<e.aJ.length) then(aH e.aJ a).bind λd=>(mV n d).bind λh=>(app b h).bind λi=>c (i,wr (a+1)) else some b) n ([],0))
def B0(n:Nat)(a:bW):Option Int:=(ba (λd ((c,b):Int×Int)=>bif decide (b<a.bp.length) then(aH a.bp b).bind λe=>d (wr (c*e),wr (b+1)) else some c) n (1,0))
def d9(n:Nat)(p:Prog)(a:bR)(b:List Int):Option Int:=(ba (λo ((l,i):Int×Int)=>bif decide (i<p.bb.length) then(aH p.bb i).bind λe=>bif !decide (e.name=a.array) then(B0 n e).bind λq=>o (wr (l+q),wr (i+1)) else bif !decide ((a.al.length:Int)=e.bp.length) then some (-1) else ba (λr ((m,h):Int×Int)=>bif decide (h<a.al.length) then(aH a.al h).bind λs=>(k2 n s b).bind λc=>(aH e.bp h).bind λd=>(fL n c 0 (wr (d-1))).bind λk=>bif !k then some (-1) else r (wr ((wr (m*d))+c),wr (h+1)) else some (wr (l+m))) n (0,0) else some (-1)) n (0,0))
def d8(n:Nat)(a:bR)(b:Prog)(c:List Int):Option Bool:=((d9 n b a c).bind λd=>some (decide (d<0)))
def vL(n:Nat)(p:Prog)(s:Stmt)(a:List Int):Option Bool:=(aY (fun(c:Bool)=>some c) λb=>(d9 n p s.write a).bind λd=>bif decide ((0:Int)<=d) then(mV n s.value).bind λe=>(vp n e λh=>d8 n h p a).bind λi=>b (!i) else b false)
def p4(n:Nat)(p:Prog):Option ((List cy)×Bool):=(aY (fun(C:Bool)=>bif C then some ([],false) else ba (λD ((l,k):(List cy)×Int)=>bif decide (k<p.parts.length) then(aH p.parts k).bind λe=>(m9 n e.nest).bind λm=>aY (fun(o:Bool)=>bif o then some ([],false) else ba (λq ((h,b):(List cy)×Int)=>bif decide (b<m.1.length) then(aH m.1 b).bind λc=>(xx n c).bind λr=>bif !r then some ([],false) else ba (λs ((i,a):(List cy)×Int)=>bif decide (a<e.body.length) then(aH e.body a).bind λv=>(vL n p v c).bind λw=>bif !w then some ([],false) else(ht c).bind λx=>(app i [(⟨k,a,x⟩:cy)]).bind λy=>s (y,wr (a+1)) else q (i,wr (b+1))) n (h,0) else D (h,wr (k+1))) n (l,0)) (λd=>bif !m.2 then d true else(fL n e.body.length 1 4).bind λz=>bif !z then d true else(vx n e.body λF=>r8 n F e).bind λA=>d A) else some (l,decide ((l.length:Int)<=120))) n ([],0)) λB=>(wV n p.bb).bind λG=>bif !G then B true else B (decide ((4:Int)<p.parts.length)))
def sN(n:Nat)(p:Prog):Option Bool:=((p4 n p).bind λa=>some a.2)
def m8(n:Nat)(p:Prog)(a b:Int):Option (Prog×Bool):=(aY (fun(e:Bool)=>bif e then some ((⟨[],[]⟩:Prog),false) else(qm n p).bind λd=>(aH d.parts a).bind λl=>some (d,true)) λc=>(sN n p).bind λh=>bif !h then c true else(mK n p a).bind λi=>bif !i then c true else bif !decide (b=(-1)) then(BD n p a b).bind λk=>c (!k) else c false)
def vQ(n:Nat)(l:Loop)(f:az->Option az):Option Loop:=(ba (λe ((x,i):Loop×Int)=>(er l.bg x.bg).bind λh=>(er l.aD x.aD).bind λm=>bif decide (i<2) then bif decide (i=0) then ba (λa ((y,k):(List az)×Int)=>bif decide (k<x.bg.length) then(aH y k).bind λb=>(f b).bind λc=>(dh y k c).bind λd=>a (d,wr (k+1)) else e ((⟨y,x.aD⟩:Loop),wr (0+1))) n (x.bg,0) else bif decide (i=1) then ba (λa ((y,k):(List az)×Int)=>bif decide (k<x.aD.length) then(aH y k).bind λb=>(f b).bind λc=>(dh y k c).bind λd=>a (d,wr (k+1)) else e ((⟨x.bg,y⟩:Loop),wr (1+1))) n (x.aD,0) else none else some x) n (l,0))
def Dx(n:Nat)(a:Int):Option az:=((mk 4 0).bind λb=>some (⟨b,a⟩:az))
def Cz(n:Nat)(v k:Int):Option az:=((Dx n 0).bind λa=>(aH a.ak v).bind λc=>(dh a.ak v k).bind λb=>some (⟨b,a.const⟩:az))
def u6(n:Nat)(a:az)(k:Int)(b:az):Option az:=((jP n a).bind λe=>ba (λh ((d,c):(List Int)×Int)=>bif decide (c<b.ak.length) then(aH b.ak c).bind λi=>(aH d c).bind λl=>(dh d c (wr (l+(wr (k*i))))).bind λm=>h (m,wr (c+1)) else some (⟨d,wr (e.const+(wr (k*b.const)))⟩:az)) n (e.ak,0))
def vP(n:Nat)(p:Part)(a:Int)(f:az->Option az):Option Part:=(ba (λb ((x,k):(List Loop)×Int)=>(er p.nest x).bind λo=>bif decide (k<x.length) then(aH x k).bind λc=>(vQ n c f).bind λd=>(dh x k d).bind λe=>b (e,wr (k+1)) else ba (λh ((y,j):(List Stmt)×Int)=>(er p.body y).bind λq=>bif decide (j<p.body.length) then(aH y j).bind λi=>(i8 n i f).bind λl=>(dh y j l).bind λm=>h (m,wr (j+1)) else some (⟨x,y⟩:Part)) n (p.body,0)) n (p.nest,a))
def ux(n:Nat)(a:az)(v:Int)(b:az):Option az:=((jP n a).bind λc=>(aH c.ak v).bind λd=>(dh c.ak v 0).bind λe=>(u6 n (⟨e,c.const⟩:az) d b).bind λh=>some h)
def wF(n:Nat)(p:Prog):Option (Prog×Bool):=((sN n p).bind λa=>bif !a then some ((⟨[],[]⟩:Prog),false) else(qm n p).bind λb=>some (b,true))
def tD(n:Nat)(a:List Int)(b:List Int):Option Bool:=(bif !decide ((a.length:Int)=b.length) then some false else ba (λd (c:Int)=>bif decide (c<a.length) then(aH a c).bind λe=>(aH b c).bind λh=>bif !decide (e=h) then some false else d (wr (c+1)) else some true) n 0)
def xi(n:Nat)(a b:bW):Option Bool:=(bif !decide (a.name=b.name) then some false else(tD n a.bp b.bp).bind λc=>bif !c then some false else some true)
def Ct(n:Nat)(a:List bW)(b:List bW):Option Bool:=(bif !decide ((a.length:Int)=b.length) then some false else ba (λd (c:Int)=>bif decide (c<a.length) then(aH a c).bind λe=>(aH b c).bind λh=>(xi n e h).bind λi=>bif !i then some false else d (wr (c+1)) else some true) n 0)
def s8(n:Nat)(a b:az):Option Bool:=((tD n a.ak b.ak).bind λc=>bif !c then some false else bif !decide (a.const=b.const) then some false else some true)
def sW(n:Nat)(a:List az)(b:List az):Option Bool:=(bif !decide ((a.length:Int)=b.length) then some false else ba (λd (c:Int)=>bif decide (c<a.length) then(aH a c).bind λe=>(aH b c).bind λh=>(s8 n e h).bind λi=>bif !i then some false else d (wr (c+1)) else some true) n 0)
def xG(n:Nat)(a b:Loop):Option Bool:=((sW n a.bg b.bg).bind λc=>bif !c then some false else(sW n a.aD b.aD).bind λd=>bif !d then some false else some true)
def yj(n:Nat)(a:List Loop)(b:List Loop):Option Bool:=(bif !decide ((a.length:Int)=b.length) then some false else ba (λd (c:Int)=>bif decide (c<a.length) then(aH a c).bind λe=>(aH b c).bind λh=>(xG n e h).bind λi=>bif !i then some false else d (wr (c+1)) else some true) n 0)
def s9(n:Nat)(a b:bR):Option Bool:=(bif !decide (a.array=b.array) then some false else(sW n a.al b.al).bind λc=>bif !c then some false else some true)
def yk(n:Nat)(self:Expr->Expr->Option Bool)(a:List Expr)(b:List Expr):Option Bool:=(bif !decide ((a.length:Int)=b.length) then some false else ba (λd (c:Int)=>bif decide (c<a.length) then(aH a c).bind λe=>(aH b c).bind λh=>(self e h).bind λi=>bif !i then some false else d (wr (c+1)) else some true) n 0)
def mn:Nat->Expr->Expr->Option Bool
 |0,_,_=>none
 |n+1,a,b=>(bif !decide (a.kind=b.kind) then some false else bif !decide (a.num=b.num) then some false else(s8 n a.index b.index).bind λc=>bif !c then some false else(s9 n a.read b.read).bind λd=>bif !d then some false else(yk n (mn n) a.aJ b.aJ).bind λe=>bif !e then some false else some true)
def xL(n:Nat)(a b:Stmt):Option Bool:=((s9 n a.write b.write).bind λc=>bif !c then some false else(mn n a.value b.value).bind λd=>bif !d then some false else some true)
def yh(n:Nat)(a:List Stmt)(b:List Stmt):Option Bool:=(bif !decide ((a.length:Int)=b.length) then some false else ba (λd (c:Int)=>bif decide (c<a.length) then(aH a c).bind λe=>(aH b c).bind λh=>(xL n e h).bind λi=>bif !i then some false else d (wr (c+1)) else some true) n 0)
def xM(n:Nat)(a b:Part):Option Bool:=((yj n a.nest b.nest).bind λc=>bif !c then some false else(yh n a.body b.body).bind λd=>bif !d then some false else some true)
def yi(n:Nat)(a:List Part)(b:List Part):Option Bool:=(bif !decide ((a.length:Int)=b.length) then some false else ba (λd (c:Int)=>bif decide (c<a.length) then(aH a c).bind λe=>(aH b c).bind λh=>(xM n e h).bind λi=>bif !i then some false else d (wr (c+1)) else some true) n 0)
def kB(n:Nat)(a b:Prog):Option Bool:=((Ct n a.bb b.bb).bind λc=>bif !c then some false else(yi n a.parts b.parts).bind λd=>bif !d then some false else some true)
def hL(n:Nat)(k:Int):Option (List UInt8):=(bif decide (k<=0) then some [109,48] else ba (λc ((a,b):Int×(List UInt8))=>bif decide ((0:Int)<a) then(cat [UInt8.ofInt (wr (48+(Int.tmod a 10)))] b).bind λd=>c (wr (Int.tdiv a 10),d) else(cat [109] b).bind λe=>some e) n (k,[]))
def kD(n:Nat)(a:List Int)(k:Int):Option Int:=(ba (λd ((b,c):Int×Int)=>bif decide (c<a.length) then(aH a c).bind λe=>bif !decide (e=b) then some (-1) else d (wr (b+1),wr (c+1)) else some b) n (k,0))
def qu(n:Nat)(a:List bW)(k:Int):Option Int:=(ba (λh ((b,c):Int×Int)=>bif decide (c<a.length) then(aH a c).bind λd=>(hL n b).bind λi=>bif !decide (d.name=i) then some (-1) else(kD n d.bp (wr (b+1))).bind λe=>bif decide (e<0) then some (-1) else h (e,wr (c+1)) else some b) n (k,0))
def ig(n:Nat)(a:List az)(k:Int):Option Int:=(ba (λh ((d,b):Int×Int)=>bif decide (b<a.length) then(aH a b).bind λe=>(kD n e.ak d).bind λc=>bif decide (c<0) then some (-1) else bif !decide (e.const=c) then some (-1) else h (wr (c+1),wr (b+1)) else some d) n (k,0))
def oO(n:Nat)(a:List Loop)(k:Int):Option Int:=(ba (λi ((c,b):Int×Int)=>bif decide (b<a.length) then(aH a b).bind λd=>(ig n d.bg c).bind λe=>bif decide (e<0) then some (-1) else(ig n d.aD e).bind λh=>bif decide (h<0) then some (-1) else i (h,wr (b+1)) else some c) n (k,0))
def ko:Nat->(List Expr)->Int->Option Int
 |0,_,_=>none
 |n+1,a,k=>(ba (λl ((c,e):Int×Int)=>bif decide (e<a.length) then(aH a e).bind λb=>bif !decide (b.kind=c) then some (-1) else bif !decide (b.num=wr (c+1)) then some (-1) else(kD n b.index.ak (wr ((wr (c+1))+1))).bind λd=>bif decide (d<0) then some (-1) else bif !decide (b.index.const=d) then some (-1) else(hL n (wr (d+1))).bind λm=>bif !decide (b.read.array=m) then some (-1) else(ig n b.read.al (wr ((wr (d+1))+1))).bind λh=>bif decide (h<0) then some (-1) else(ko n b.aJ h).bind λi=>bif decide (i<0) then some (-1) else l (i,wr (e+1)) else some c) n (k,0))
def oN(n:Nat)(a:List Stmt)(k:Int):Option Int:=(ba (λm ((h,i):Int×Int)=>bif decide (i<a.length) then(aH a i).bind λb=>(hL n h).bind λo=>bif !decide (b.write.array=o) then some (-1) else(ig n b.write.al (wr (h+1))).bind λd=>bif decide (d<0) then some (-1) else bif !decide (b.value.kind=d) then some (-1) else bif !decide (b.value.num=wr (d+1)) then some (-1) else(kD n b.value.index.ak (wr ((wr (d+1))+1))).bind λe=>bif decide (e<0) then some (-1) else bif !decide (b.value.index.const=e) then some (-1) else(hL n (wr (e+1))).bind λp=>bif !decide (b.value.read.array=p) then some (-1) else(ig n b.value.read.al (wr ((wr (e+1))+1))).bind λl=>bif decide (l<0) then some (-1) else(ko n b.value.aJ l).bind λc=>bif decide (c<0) then some (-1) else m (c,wr (i+1)) else some h) n (k,0))
def qy(n:Nat)(a:List Part)(k:Int):Option Int:=(ba (λi ((c,b):Int×Int)=>bif decide (b<a.length) then(aH a b).bind λd=>(oO n d.nest c).bind λe=>bif decide (e<0) then some (-1) else(oN n d.body e).bind λh=>bif decide (h<0) then some (-1) else i (h,wr (b+1)) else some c) n (k,0))
def ow(n:Nat)(a:Prog)(k:Int):Option Int:=((qu n a.bb k).bind λb=>bif decide (b<0) then some (-1) else(qy n a.parts b).bind λc=>bif decide (c<0) then some (-1) else some c)
def yl(n:Nat)(a:Int):Option az:=((yM n).bind λb=>some (⟨b.ak,a⟩:az))
def xZ(n:Nat)(a:Loop):Option Bool:=(ba (λd (b:Int)=>bif decide (b<a.bg.length) then(aH a.bg b).bind λe=>(l3 n e).bind λh=>bif decide ((0:Int)<h) then some false else d (wr (b+1)) else ba (λi (c:Int)=>bif decide (c<a.aD.length) then(aH a.aD c).bind λk=>(l3 n k).bind λl=>bif decide ((0:Int)<l) then some false else i (wr (c+1)) else some true) n 0) n 0)
def xk(n:Nat)(x:Loop):Option (Int×Int×Bool):=(aY (fun(b:Bool)=>bif b then some (0,0,false) else(aH x.bg 0).bind λc=>(aH x.aD 0).bind λd=>some (c.const,d.const,true)) λa=>bif !decide ((x.bg.length:Int)=1) then a true else bif !decide ((x.aD.length:Int)=1) then a true else(xZ n x).bind λe=>a (!e))
def wz(n:Nat)(a:az):Option Bool:=((ot n a).bind λb=>some (decide ((0:Int)<b)))
def tu(n:Nat)(a:List az):Option Bool:=((oj n a λb=>wz n b).bind λc=>some (!c))
def v8(n:Nat)(l:Loop):Option (Int×Int×Bool):=(aY (fun(b:Bool)=>bif b then some (0,0,false) else(aH l.bg 0).bind λc=>(aH l.aD 0).bind λd=>some (c.const,d.const,true)) λa=>bif !decide ((l.bg.length:Int)=1) then a true else bif !decide ((l.aD.length:Int)=1) then a true else(tu n l.bg).bind λe=>bif !e then a true else(tu n l.aD).bind λh=>a (!h))
def m0(n:Nat)(d:List Int):Option Int:=(ba (λb (a:Int)=>bif decide (a<d.length) then(aH d a).bind λc=>bif !decide (c=0) then some a else b (wr (a+1)) else some (-1)) n 0)
def xR(n:Nat)(d:List Int):Option Bool:=((m0 n d).bind λa=>aY (fun(c:Bool)=>some c) λb=>bif decide (a<0) then b true else(aH d a).bind λe=>b (decide ((0:Int)<e)))
def sQ(n:Nat)(p:Prog):Option (List cy):=(ba (λs ((m,c):(List cy)×Int)=>bif decide (c<p.parts.length) then(aH p.parts c).bind λo=>(mg n [] o.nest []).bind λq=>ba (λd ((r,e):(List cy)×Int)=>bif decide (e<q.length) then ba (λh ((b,a):(List cy)×Int)=>bif decide (a<o.body.length) then(aH q e).bind λi=>(app [] i).bind λk=>(app b [(⟨c,a,k⟩:cy)]).bind λl=>h (l,wr (a+1)) else d (b,wr (e+1))) n (r,0) else s (r,wr (c+1))) n (m,0) else some m) n ([],0))
def xU(n:Nat)(p:Prog):Option (List kr):=((sQ n p).bind λd=>ba (λi ((e,a):(List kr)×Int)=>bif decide (a<d.length) then(aH d a).bind λb=>(aH p.parts b.part).bind λk=>(aH k.body b.stmt).bind λl=>(qK n p.bb l b.cP).bind λh=>(app e [(⟨h.1,h.2.1⟩:kr)]).bind λc=>i (c,wr (a+1)) else some e) n ([],0))
def tU(n:Nat)(a:List Int)(b:Int):Option Bool:=(ba (λd (c:Int)=>bif decide (c<a.length) then(aH a c).bind λe=>bif decide (e=b) then some true else d (wr (c+1)) else some false) n 0)
def v6(n:Nat)(a b:kr):Option Int:=(aY (fun(c:Int)=>aY (fun(d:Int)=>aY (fun(k:Int)=>some k) λe=>bif decide (a.write=b.write) then e (wr (d+4)) else e d) λh=>(tU n a.reads b.write).bind λl=>bif l then h (wr (c+2)) else h c) λi=>(tU n b.reads a.write).bind λm=>bif m then i (wr (0+1)) else i 0)
def xV(n:Nat)(p:Prog):Option (List fb):=((xU n p).bind λd=>ba (λq ((o,a):(List fb)×Int)=>bif decide (a<d.length) then ba (λr ((h,e):(List fb)×Int)=>bif decide (e<d.length) then aY (fun(i:(List fb))=>r (i,wr (e+1))) (λb=>(aH d a).bind λk=>(aH d e).bind λl=>(v6 n k l).bind λc=>bif !decide (c=0) then(app h [(⟨a,e,c⟩:fb)]).bind λm=>b m else b h) else q (h,wr (a+1))) n (o,wr (a+1)) else some o) n ([],0))
def x0(n:Nat)(a:List Int)(b:List Int):Option Bool:=(bif !decide ((a.length:Int)=b.length) then some false else ba (λd (c:Int)=>bif decide (c<a.length) then(aH a c).bind λe=>(aH b c).bind λh=>bif !decide (e=h) then some false else d (wr (c+1)) else some true) n 0)
def xn(n:Nat)(p:List Int)(q:List Int):Option Bool:=(ba (λe (a:Int)=>aY (fun(h:Bool)=>bif h then(aH p a).bind λb=>(aH q a).bind λc=>bif !decide (b=c) then some (decide (b<c)) else e (wr (a+1)) else some (decide ((p.length:Int)<q.length))) λd=>bif decide (a<p.length) then d (decide (a<q.length)) else d false) n 0)
def um(n:Nat)(a:List (List Int))(d:List Int):Option (List (List Int)):=(ba (λx ((c,e,h):(List (List Int))×Bool×Int)=>bif decide (h<a.length) then(aH a h).bind λi=>(x0 n i d).bind λy=>bif y then some a else aY (fun((k,l):(List (List Int))×Bool)=>(app k [i]).bind λm=>x (m,l,wr (h+1))) (λv=>aY (fun(o:Bool)=>bif o then(app c [d]).bind λp=>v (p,true) else v (c,e)) λw=>bif !e then(xn n d i).bind λq=>w q else w false) else aY (fun(r:(List (List Int)))=>some r) λb=>bif !e then(app c [d]).bind λs=>b s else b c) n ([],false,0))
def xl(n:Nat)(a:List Int)(b:List Int):Option (List Int):=(ba (λe ((d,c):(List Int)×Int)=>bif decide (c<a.length) then(aH a c).bind λh=>(aH b c).bind λi=>(app d [wr (h-i)]).bind λk=>e (k,wr (c+1)) else some d) n ([],0))
def vT(n:Nat)(p:Prog)(a:Int):Option (List (List Int)):=((sQ n p).bind λo=>(xV n p).bind λq=>ba (λv ((e,h):(List (List Int))×Int)=>bif decide (h<q.length) then aY (fun((w,x,y,z,A,B,i):Int×Int×(List Int)×Int×Int×(List Int)×(List (List Int)))=>v (i,wr (h+1))) (λr=>(aH q h).bind λs=>(aH o s.eG).bind λb=>(aH o s.eI).bind λc=>aY (fun(k:Bool)=>bif k then(xl n c.cP b.cP).bind λl=>(um n e l).bind λm=>r (b.part,b.stmt,b.cP,c.part,c.stmt,c.cP,m) else r (b.part,b.stmt,b.cP,c.part,c.stmt,c.cP,e)) λd=>bif decide (b.part=a) then d (decide (c.part=a)) else d false) else some e) n ([],0))
def vO(n:Nat)(p:Prog)(x:cy):Option Stmt:=((aH p.parts x.part).bind λa=>(aH a.body x.stmt).bind λb=>some b)
def vH(n:Nat)(p:Prog)(x:cy):Option ((List Int)×Int):=((vO n p x).bind λc=>(mV n c.value).bind λd=>ba (λh ((e,a):(List Int)×Int)=>bif decide (a<d.length) then(aH d a).bind λi=>(d9 n p i x.cP).bind λk=>(app e [k]).bind λl=>h (l,wr (a+1)) else(d9 n p c.write x.cP).bind λb=>some (e,b)) n ([],0))
def rs(n:Nat)(p:Prog):Option ((Option nY)×Bool):=((p4 n p).bind λa=>bif !a.2 then some (none,false) else ba (λk ((e,h,b):(List (List Int))×(List Int)×Int)=>bif decide (b<a.1.length) then(aH a.1 b).bind λl=>(vH n p l).bind λi=>(app e [i.1]).bind λc=>(app h [i.2]).bind λd=>k (c,d,wr (b+1)) else some (some (⟨p,a.1,e,h⟩:nY),true)) n ([],[],0))
def Cc(n:Nat)(s:List Int)(v:Int):Option Int:=(ba (λb (a:Int)=>bif decide (a<s.length) then(aH s a).bind λc=>bif decide (v=c) then some a else b (wr (a+1)) else some (-1)) n 0)
def sM(n:Nat)(s:List Int)(v:Int):Option Bool:=((Cc n s v).bind λa=>some (decide ((0:Int)<=a)))
def vJ(n:Nat)(t:nY)(a b:Int):Option Int:=(aY (fun(k:Int)=>aY (fun(c:Int)=>aY (fun(e:Int)=>some e) λd=>(aH t.gb a).bind λh=>(aH t.gb b).bind λi=>bif decide (h=i) then d (wr (c+4)) else d c) λl=>(aH t.reads a).bind λo=>(aH t.gb b).bind λp=>(sM n o p).bind λq=>bif q then l (wr (k+2)) else l k) λm=>(aH t.reads b).bind λr=>(aH t.gb a).bind λs=>(sM n r s).bind λv=>bif v then m (wr (0+1)) else m 0)
def vV(n:Nat)(t:nY):Option (List fb):=(ba (λl ((i,a):(List fb)×Int)=>bif decide (a<t.list.length) then ba (λm ((d,c):(List fb)×Int)=>bif decide (c<t.list.length) then aY (fun(e:(List fb))=>m (e,wr (c+1))) (λk=>(vJ n t a c).bind λb=>bif decide ((0:Int)<b) then(app d [(⟨a,c,b⟩:fb)]).bind λh=>k h else k d) else l (d,wr (a+1))) n (i,wr (a+1)) else some i) n ([],0))
def BO(n:Nat)(a:Int):Option Bool:=(some (!decide (a=0)))
def v'(n:Nat)(d:List Int):Option Int:=((si n d λa=>BO n a).bind λb=>some b)
def vt(n:Nat)(t:nY)(c:Int):Option (List (List Int)):=((vV n t).bind λx=>ba (λz ((k,l):(List (List Int))×Int)=>bif decide (l<x.length) then aY (fun((m,A,B,C,D,F,G,H,K,L):(List (List Int))×Int×Int×Int×Int×Int×(List Int)×Int×Int×(List Int))=>z (m,wr (l+1))) (λy=>(aH x l).bind λd=>(aH t.list d.eG).bind λe=>(aH t.list d.eI).bind λa=>aY (fun(o:Bool)=>bif o then y (k,d.eG,d.eI,d.kinds,e.part,e.stmt,e.cP,a.part,a.stmt,a.cP) else ba (λp ((h,b):(List Int)×Int)=>bif decide (b<a.cP.length) then(aH a.cP b).bind λq=>(aH e.cP b).bind λr=>(app h [wr (q-r)]).bind λs=>p (s,wr (b+1)) else(app k [h]).bind λv=>y (v,d.eG,d.eI,d.kinds,e.part,e.stmt,e.cP,a.part,a.stmt,a.cP)) n ([],0)) λi=>bif !decide (e.part=c) then i true else i (!decide (a.part=c))) else(ka k).bind λw=>some (fl w)) n ([],0))
def vR(n:Nat)(p:Prog)(a:Int):Option (List (List Int)):=((rs n p).bind λb=>bif b.1.isSome then aY (fun(e:Bool)=>bif e then some [] else(vt n (b.1.getD default) a).bind λh=>some h) (λc=>bif !b.2 then c true else(mK n p a).bind λi=>c (!i)) else aY (fun(k:Bool)=>bif k then some [] else none) λd=>bif !b.2 then d true else(mK n p a).bind λl=>d (!l))
def uy(n:Nat)(p:Prog)(c:Int)(f:List Int->Option (List Int)):Option Bool:=((vR n p c).bind λh=>ba (λl ((b,i):(List (List Int))×Int)=>bif decide (i<h.length) then(aH b i).bind λd=>(f d).bind λe=>(er d e).bind λm=>(v' n e).bind λk=>(dh b i e).bind λa=>bif decide ((0:Int)<=k) then(aH e k).bind λy=>bif decide (y<0) then some false else l (a,wr (i+1)) else l (a,wr (i+1)) else some true) n (h,0))
def qj(n:Nat)(p:Prog)(b a:Int):Option (Prog×Bool):=((qd n p).bind λi=>(rm n i b a).bind λB=>bif !B then some ((⟨[],[]⟩:Prog),false) else(aH i.parts b).bind λy=>(aH y.nest a).bind λC=>(xk n C).bind λk=>(vT n i b).bind λz=>ba (λD ((A,l):Bool×Int)=>bif decide (l<z.length) then aY (fun((F,m):(List Int)×Bool)=>D (m,wr (l+1))) (λd=>(aH z l).bind λo=>(app [] o).bind λe=>(aH e a).bind λq=>(dh e a (wr (0-q))).bind λc=>bif A then(xR n c).bind λr=>d (c,r) else d (c,false)) else bif !A then some ((⟨[],[]⟩:Prog),false) else(yl n (wr ((wr (k.1+k.2.1))-1))).bind λs=>(zo n a).bind λv=>(qA n s 1 v (-1)).bind λw=>(xj n y a 1 a w).bind λx=>(xQ n i b 1 [x]).bind λh=>some (h.1,h.2)) n (k.2.2,0))
def qf(n:Nat)(d:List Int)(a:Int):Option (List Int):=((aH d a).bind λb=>(dh d a (wr (0-b))).bind λc=>some c)
def qe(n:Nat)(a:az)(b:Int)(c:az):Option az:=((ux n a b c).bind λd=>some d)
def mM(n:Nat)(p:Prog)(b a:Int):Option (Prog×Bool):=((m8 n p b a).bind λc=>bif c.2 then bif decide (a<0) then some ((⟨[],[]⟩:Prog),false) else(aH c.1.parts b).bind λl=>(aH l.nest a).bind λm=>(v8 n m).bind λd=>bif d.2.2 then(uy n p b λe=>qf n e a).bind λo=>bif o then(Cz n a (-1)).bind λq=>(vP n l (wr (a+1)) λe=>qe n e a (⟨q.ak,wr ((wr (d.1+d.2.1))-1)⟩:az)).bind λh=>(dh c.1.parts b h).bind λi=>(wF n (⟨c.1.bb,i⟩:Prog)).bind λk=>some k else some ((⟨[],[]⟩:Prog),false) else some ((⟨[],[]⟩:Prog),false) else some ((⟨[],[]⟩:Prog),false))
def aU:List df:=[⟨3,1,[]⟩,⟨98,2,[(1,0)]⟩,⟨46,2,[(0,0)]⟩,⟨64,2,[(0,2),(1,2)]⟩,⟨108,7,[(2,0),(5,2),(6,4)]⟩,⟨110,9,[(1,2),(4,0),(7,2),(8,4)]⟩,⟨54,2,[(0,3),(1,5)]⟩]
def oQ(n:Nat)(a:List Int)(k:Int):Option (Int×List Int):=ba (λd ((b6,b,c):Int×List Int×Int)=>bif decide (c<b.length) then(aH b c).bind λy=>(dh b c b6).bind λz=>d (wr (b6+1),z,wr (c+1)) else some (b6,b)) n (k,a,0)
def vY(n:Nat)(a:List bW)(k:Int):Option (Int×List bW):=ba (λe ((b6,b,c):Int×List bW×Int)=>bif decide (c<b.length) then(aH b c).bind λy=>(hL n b6).bind λh=>(oQ n y.bp (wr (b6+1))).bind λd=>(er y.bp d.2).bind λ_=>(dh b c (⟨h,d.2⟩:bW)).bind λz=>e (d.1,z,wr (c+1)) else some (b6,b)) n (k,a,0)
def mL(n:Nat)(a:List az)(k:Int):Option (Int×List az):=ba (λe ((b6,b,c):Int×List az×Int)=>bif decide (c<b.length) then(aH b c).bind λy=>(oQ n y.ak b6).bind λd=>(er y.ak d.2).bind λ_=>(dh b c (⟨d.2,d.1⟩:az)).bind λz=>e (wr (d.1+1),z,wr (c+1)) else some (b6,b)) n (k,a,0)
def wm(n:Nat)(a:List Loop)(k:Int):Option (Int×List Loop):=ba (λh ((b6,b,c):Int×List Loop×Int)=>bif decide (c<b.length) then(aH b c).bind λy=>(mL n y.bg b6).bind λd=>(er y.bg d.2).bind λ_=>(mL n y.aD d.1).bind λe=>(er y.aD e.2).bind λ_=>(dh b c (⟨d.2,e.2⟩:Loop)).bind λz=>h (e.1,z,wr (c+1)) else some (b6,b)) n (k,a,0)
def nN:Nat->List Expr->Int->Option (Int×List Expr)
 |0,_,_=>none
 |n+1,a,k=>ba (λi ((b6,c,d):Int×List Expr×Int)=>bif decide (d<c.length) then(aH c d).bind λy=>(oQ n y.index.ak (wr (wr (b6+1)+1))).bind λb=>(er y.index.ak b.2).bind λ_=>(hL n (wr (b.1+1))).bind λl=>(mL n y.read.al (wr (wr (b.1+1)+1))).bind λe=>(er y.read.al e.2).bind λ_=>(nN n y.aJ e.1).bind λh=>(er y.aJ h.2).bind λ_=>(dh c d (⟨b6,wr (b6+1),⟨b.2,b.1⟩,⟨l,e.2⟩,h.2⟩:Expr)).bind λz=>i (h.1,z,wr (d+1)) else some (b6,c)) n (k,a,0)
def wk(n:Nat)(a:List Stmt)(k:Int):Option (Int×List Stmt):=ba (λl ((b6,d,e):Int×List Stmt×Int)=>bif decide (e<d.length) then(aH d e).bind λy=>(hL n b6).bind λm=>(mL n y.write.al (wr (b6+1))).bind λb=>(er y.write.al b.2).bind λ_=>(oQ n y.value.index.ak (wr (wr (b.1+1)+1))).bind λc=>(er y.value.index.ak c.2).bind λ_=>(hL n (wr (c.1+1))).bind λo=>(mL n y.value.read.al (wr (wr (c.1+1)+1))).bind λh=>(er y.value.read.al h.2).bind λ_=>(nN n y.value.aJ h.1).bind λi=>(er y.value.aJ i.2).bind λ_=>(dh d e (⟨⟨m,b.2⟩,⟨b.1,wr (b.1+1),⟨c.2,c.1⟩,⟨o,h.2⟩,i.2⟩⟩:Stmt)).bind λz=>l (i.1,z,wr (e+1)) else some (b6,d)) n (k,a,0)
def sX(n:Nat)(a:List Part)(k:Int):Option (Int×List Part):=ba (λh ((b6,b,c):Int×List Part×Int)=>bif decide (c<b.length) then(aH b c).bind λy=>(wm n y.nest b6).bind λd=>(er y.nest d.2).bind λ_=>(wk n y.body d.1).bind λe=>(er y.body e.2).bind λ_=>(dh b c (⟨d.2,e.2⟩:Part)).bind λz=>h (e.1,z,wr (c+1)) else some (b6,b)) n (k,a,0)
def oz(n:Nat)(a:Prog)(k:Int):Option (Int×List bW×List Part):=(vY n a.bb k).bind λb=>(sX n a.parts b.1).bind λc=>some (c.1,b.2,c.2)
def H7(n:Nat)(i:Prog)(b c:Int):Option Bool:=((wj n i 1048576).bind λA=>bif decide (A<0) then some true else(kA n i).bind λB=>(qj n B b c).bind λh=>(kA n i).bind λp=>(mM n p b c).bind λd=>aY (fun(C:Bool)=>bif C then some false else(kA n i).bind λD=>(kB n p D).bind λq=>bif !q then some false else(oz n p 1).bind λr=>aY (fun(s:Bool)=>bif s then some false else(oz n d.1 1).bind λa=>(er d.1.bb a.2.1).bind λ_=>(er d.1.parts a.2.2).bind λ_=>(ow n (⟨a.2.1,a.2.2⟩:Prog) 1).bind λk=>bif decide (k<0) then some false else bif !decide (k=a.1) then some false else(kA n i).bind λv=>(mM n v b c).bind λl=>aY (fun(w:Bool)=>bif w then some false else(ow n (⟨a.2.1,a.2.2⟩:Prog) 1).bind λm=>bif decide (m<0) then some false else bif !decide (m=a.1) then some false else some true) λo=>(kB n l.1 h.1).bind λx=>bif !x then o true else o (!(l.2==h.2))) λe=>bif decide (r.1<0) then e true else(kB n d.1 h.1).bind λy=>bif !y then e true else e (!(d.2==h.2))) λz=>(kB n d.1 h.1).bind λF=>bif !F then z true else z (!(d.2==h.2)))
end Go.Lift
