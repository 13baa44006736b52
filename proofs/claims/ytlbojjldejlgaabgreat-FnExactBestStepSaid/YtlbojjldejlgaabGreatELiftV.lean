/- Tools. -/
import Derived.Test.YtlbojjldejlgaabGreatELiftTV
namespace Go.Lift
open Go
section
variable {P:Program}{b':List (Nat×b6)}{H:Nat->Option E}{d:Option Tmp}{ty:TypeId}{pos:String}{af:Array Edge}{g:Option (Nat×Bool)}
variable {t:TypeId}{u:TypeDesc}{z:Value}{size bytes:Nat}
theorem AQ(a:BinOp)(c:OX a=true)(x y:Operand)(t e:TypeId)(k:IntKind)(m n:Int):b5 P H ⟨d,.binOp a t x y e,ty,pos,af,g⟩ [.t (.int k m),.t (.int k n)] (.t (.int k (bits a k m n))):=by
 intro h w X i _ b;refine⟨Value.int k (bits a k m n),?_,.t _ _ (.int k _)⟩;cases a<;>simp[OX] at c<;>
  simp[execOp,du b.1,du b.2.1,eqGuard,binOp,intBits_and,intBits_or,intBits_xor,intBits_andNot]
theorem ack(x y:Operand)(t b:TypeId)(m n:List UInt8):b5 P H ⟨d,.binOp .lss t x y b,ty,pos,af,g⟩ [.t (.str m),.t (.str n)] (.t (.bool (Op.bytesLess m n))):=by intro c w X e _ a;refine⟨.bool (Op.bytesLess m n),?_,.t _ _ (.bool _)⟩;simp[execOp,gO a.1,gO a.2.1,eqGuard,binOp,Op.stringOp]
theorem acn(x y:Operand)(t b:TypeId)(m n:List UInt8):b5 P H ⟨d,.binOp .gtr t x y b,ty,pos,af,g⟩ [.t (.str m),.t (.str n)] (.t (.bool (!Op.bytesLess m n&& !m==n))):=by intro c w X e _ a;refine⟨.bool (!Op.bytesLess m n&& !m==n),?_,.t _ _ (.bool _)⟩;simp[execOp,gO a.1,gO a.2.1,eqGuard,binOp,Op.stringOp]
theorem acm(x y:Operand)(t b:TypeId)(m n:List UInt8):b5 P H ⟨d,.binOp .leq t x y b,ty,pos,af,g⟩ [.t (.str m),.t (.str n)] (.t (.bool (Op.bytesLess m n||m==n))):=by intro c w X e _ a;refine⟨.bool (Op.bytesLess m n||m==n),?_,.t _ _ (.bool _)⟩;simp[execOp,gO a.1,gO a.2.1,eqGuard,binOp,Op.stringOp]
theorem adT(x:Operand)(t:TypeId)(k:IntKind)(n:Int):b5 P H ⟨d,.unOp .neg t x,ty,pos,af,g⟩ [.t (.int k n)] (.t (.int k (k.wrap (0-n)))):=by intro b w X c _ a;refine⟨.int k (k.wrap (0-n)),?_,.t _ _ (.int _ _)⟩;simp[execOp,du a.1,Op.unary,Op.intArith]
theorem VJ(x:Operand)(f:FuncId)(a:List V):b5 P H ⟨d,.nilCheck x,ty,pos,af,g⟩ [.fn f a] (.fn f a):=by intro e w X b _ h;have c:bh e w X (.fn f a) (b x):=h.1;refine⟨b x,?_,c⟩;generalize i:b x=y at c;cases c with|fn=>simp[execOp,i]
variable {a v:V}{x y:Operand}{e k:TypeId}{m c q:List df}{n:Int}{i b l o W:List ch}{G:Map}{w:World}{X:Nat->Prop}
theorem aav{a:BinOp}{t:TypeId}{k:IntKind}{m:Int}(h:Hb a k m n i=some (v,c,b))(l:cc c):
  b5 P H ⟨d,.binOp a t x y e,ty,pos,af,g⟩ [.t (.int k m),.t (.int k n)] v:=by
 cases a<;>simp only[Hb,Pm,Option.some.injEq,Prod.mk.injEq,reduceCtorEq] at h<;>obtain⟨rfl,rfl,rfl⟩:=h
 ·exact adH _ _ _ _ _ _ _
 ·exact adO _ _ _ _ _ _ _
 ·exact adU _ _ _ _ _ _ _
 ·exact adQ _ _ _ _ _ _ _ l.1
 ·exact adP _ _ _ _ _ _ _ l.1
 ·exact AQ .and rfl _ _ _ _ _ _ _
 ·exact AQ .or rfl _ _ _ _ _ _ _
 ·exact AQ .xor rfl _ _ _ _ _ _ _
 ·exact AQ .andNot rfl _ _ _ _ _ _ _
 ·exact adF _ _ _ _ _ _ _
 ·exact adS _ _ _ _ _ _ _
 ·exact adB _ _ _ _ _ _ _
 ·exact adC _ _ _ _ _ _ _
 ·exact adD _ _ _ _ _ _ _
 exact adE _ _ _ _ _ _ _
theorem aaP{a:BinOp}{t:TypeId}{m n:List UInt8}(h:Hl a m n i=some (v,c,b))(k:cc c):
  b5 P H ⟨d,.binOp a t x y e,ty,pos,af,g⟩ [.t (.str m),.t (.str n)] v:=by
 unfold Hl at h;split at h<;>cases h
 ·obtain⟨l,rfl⟩:=aar k.1;exact adG _ _ _ _ _ _ l
 ·exact acp _ _ _ _ _ _
 ·exact acx _ _ _ _ _ _
 ·exact aco _ _ _ _ _ _
 ·exact ack _ _ _ _ _ _
 ·exact acn _ _ _ _ _ _
 exact acm _ _ _ _ _ _
theorem Mr(a:dM P b')(h:GZ (dm b' t)=true):P.underlying t=some .bool:=by
 unfold GZ at h;split at h
 ·rename_i i b;split at h
  ·rename_i c;exact(a _ _ b).hU.1 c
  cases h
 cases h
theorem Fi(a:dM P b')(h:wJ (dm b' t)=true):P.underlying t=some .string:=by
 unfold wJ at h;split at h
 ·rename_i i b;split at h
  ·rename_i c;exact(a _ _ b).hU.2.2.1 c
  cases h
 cases h
theorem zW(a:dM P b')(h:w1 (dm b' t)=true): ∃e,P.underlying t=some (.slice e):=by
 unfold w1 at h;split at h
 ·rename_i i b;split at h
  ·rename_i e c;exact⟨e,(a _ _ b).hU.2.2.2 e c⟩
  cases h
 cases h
theorem vK{u:Value}(h:bh G w X (.t .gh) u):u= .nilIface:=by cases h with|t _ _ h=>cases h with|gh=>rfl
theorem Ot{u:Value}(h:bh G w X (.t .err) u): ∃t v,u= .iface t v:=by cases h with|t _ _ h=>cases h with|err t v=>exact⟨t,v,rfl⟩
theorem Tj(w:World)(n:Nat){ms}(a:TypeId)(b:Value)(c:P.underlying t=some (.interface ms)):(Op.equalIn (n+1) t (.iface a b) .nilIface).run P w= .ok false w:=by simp[Op.equalIn,run_underlying c]
theorem SR(w:World)(n:Nat){ms}(a:P.underlying t=some (.interface ms)):(Op.equalIn (n+1) t .nilIface .nilIface).run P w= .ok true w:=by simp[Op.equalIn,run_underlying a]
theorem MA(w:World){ms}(a:TypeId)(b:Value)(c:P.underlying t=some (.interface ms)):(Op.equal t (.iface a b) .nilIface).run P w= .ok false w:=Tj w 9999 a b c
theorem Lv(w:World){ms}(a:P.underlying t=some (.interface ms)):(Op.equal t .nilIface .nilIface).run P w= .ok true w:=SR w 9999 a
theorem XA(a b):binOp .eql t (.iface a b) .nilIface=(do pure (.bool (<-Op.equal t (.iface a b) .nilIface))):=rfl
theorem Xz(a b):binOp .neq t (.iface a b) .nilIface=(do pure (.bool (!(<-Op.equal t (.iface a b) .nilIface)))):=rfl
theorem Xy:binOp .eql t .nilIface .nilIface=(do pure (.bool (<-Op.equal t .nilIface .nilIface))):=rfl
theorem X7:binOp .neq t .nilIface .nilIface=(do pure (.bool (!(<-Op.equal t .nilIface .nilIface)))):=rfl
theorem MB(w:World)(o:BinOp)(x y:Operand)(a:(oY x||oY y)=true):(eqGuard o t x y .nilIface .nilIface).run P w= .ok () w:=by cases x<;>cases y<;>simp[oY] at a<;>simp[eqGuard]<;>split<;>simp
theorem acv(x y:Operand)(e:TypeId){ms}(h:P.underlying t=some (.interface ms)):b5 P H ⟨d,.binOp .eql t x y e,ty,pos,af,g⟩ [.t .err,.t .gh] (.t (.bool false)):=by intro k w X l _ c;obtain⟨a,b,i⟩:=Ot c.1;refine⟨.bool false,?_,.t _ _ (.bool _)⟩;simp[execOp,i,vK c.2.1,eqGuard,XA,MA w a b h]
theorem acu(x y:Operand)(e:TypeId){ms}(h:P.underlying t=some (.interface ms)):b5 P H ⟨d,.binOp .neq t x y e,ty,pos,af,g⟩ [.t .err,.t .gh] (.t (.bool true)):=by intro k w X l _ c;obtain⟨a,b,i⟩:=Ot c.1;refine⟨.bool true,?_,.t _ _ (.bool _)⟩;simp[execOp,i,vK c.2.1,eqGuard,Xz,MA w a b h]
theorem acr(x y:Operand)(b:TypeId){ms}(c:P.underlying t=some (.interface ms))(e:(oY x||oY y)=true):b5 P H ⟨d,.binOp .eql t x y b,ty,pos,af,g⟩ [.t .gh,.t .gh] (.t (.bool true)):=by intro h w X i _ a;refine⟨.bool true,?_,.t _ _ (.bool _)⟩;simp[execOp,vK a.1,vK a.2.1,MB w _ x y e,Xy,Lv w c]
theorem acq(x y:Operand)(b:TypeId){ms}(c:P.underlying t=some (.interface ms))(e:(oY x||oY y)=true):b5 P H ⟨d,.binOp .neq t x y b,ty,pos,af,g⟩ [.t .gh,.t .gh] (.t (.bool false)):=by intro h w X i _ a;refine⟨.bool false,?_,.t _ _ (.bool _)⟩;simp[execOp,vK a.1,vK a.2.1,MB w _ x y e,X7,Lv w c]
theorem zX{a:List (Nat×b6)}(c:dM P a)(h:Hi (dm a t)=true): ∃ms,P.underlying t=some (.interface ms):=by
 unfold Hi at h;split at h
 ·rename_i i e;split at h
  ·rename_i k;obtain⟨u,l,b⟩:=c _ _ e;simp only[b6.is,k] at b;obtain⟨m,rfl⟩:=b;exact⟨m,l.1⟩
  cases h
 cases h
theorem aaw{c:List (Nat×b6)}(q:dM P c){e:BinOp}{b:V}(h:Hc c e t x y a b l=some (v,m,i)):
  b5 P H ⟨d,.binOp e t x y k,ty,pos,af,g⟩ [a,b] v:=by
 unfold Hc at h;split at h
 ·rename_i n p;obtain⟨ms,o⟩:=zX q n;cases h;exact acv _ _ _ o
 ·rename_i n p;obtain⟨ms,o⟩:=zX q n;cases h;exact acu _ _ _ o
 ·rename_i n p;obtain⟨ms,o⟩:=zX q n;cases h;exact acr _ _ _ o p
 ·rename_i n p;obtain⟨ms,o⟩:=zX q n;cases h;exact acq _ _ _ o p
 cases h
theorem Tx(w:World)(n:Nat){e}(a:Addr)(l c:Nat)(b:P.underlying t=some (.slice e)):(Op.equalIn (n+1) t (.slice (some a) l c) (.slice none 0 0)).run P w= .ok false w:=by simp[Op.equalIn,run_underlying b]
theorem aaE(w:World){e}(a:Addr)(l c:Nat)(b:P.underlying t=some (.slice e)):(Op.equal t (.slice (some a) l c) (.slice none 0 0)).run P w= .ok false w:=Tx w 9999 a l c b
theorem abm(a:Addr)(l c:Nat):binOp .eql t (.slice (some a) l c) (.slice none 0 0)=(do pure (.bool (<-Op.equal t (.slice (some a) l c) (.slice none 0 0)))):=rfl
theorem abx(x y:Operand)(n:TypeId)(i:List (List T)){e}(o:P.underlying t=some (.slice e))(p:i≠[]):b5 P H ⟨d,.binOp .eql t x y n,ty,pos,af,g⟩ [.t (.ay i),.t .e5] (.t (.bool false)):=by
 intro C w X k _ m;obtain⟨a,l,c,q⟩: ∃a l c,k x= .slice (some a) l c:=by
  cases m.1 with|t _ _ h=>
  generalize r:k x=u at h;cases h with
  |fB=>exact bt rfl p
  |ay _ b s size A f=>exact⟨_,_,_,rfl⟩
 have B:k y= .slice none 0 0:=by
  cases m.2.1 with|t _ _ h=>
  generalize r:k y=u at h;cases h;rfl
 refine⟨.bool false,?_,.t _ _ (.bool _)⟩;simp[execOp,q,B,eqGuard,abm,aaE w a l c o]
theorem aaQ{c:List (Nat×b6)}(p:dM P c){k:BinOp}{l:TypeId}{b:V}{n:List ch}(h:Hm c k t a b n=some (v,m,i))(o:cc m):
  b5 P H ⟨d,.binOp k t x y l,ty,pos,af,g⟩ [a,b] v:=by
 unfold Hm at h;split at h
 ·rename_i q;obtain⟨e,r⟩:=zW p q;cases h;exact abx _ _ _ _ r o.1
 cases h
theorem VM(x y:Operand)(e n c a k:Nat){u:TypeDesc}{z:Value}{i m:Nat}(l:P.underlying t=some (.array n e))(o:b4 P e u z i m)(r:k<n):
  b5 P H ⟨d,.indexAddr t x y,ty,pos,af,g⟩ [.ref c a,.t (.int .i64 (k:Int))] (.ref c (a+k*i)):=by
 intro s w X A B h;have cu:=du h.2.1;obtain⟨b,p,q⟩:=sX h.1;refine⟨.pointer (some ⟨b,a+k*i,none⟩),?_,.ref _ _ _ p⟩;simp[execOp,q,cu,Instr.indexAt,asIntOf,run_underlying l,o.run_sizeOf,iE,Instr.sureAddr]
 grind
theorem aaC(A:dM P b'){e:BinOp}{t:TypeId}{b:V}(h:Hg P b' e t a b i=some (v,c,l))(m:cc c):
  b5 P H ⟨d,.binOp e t x y k,ty,pos,af,g⟩ [a,b] v:=by
 unfold Hg at h;split at h
 ·split at h
  ·rename_i B;subst B;exact aav h m
  cases h
 ·exact aaP h m
 ·split at h
  ·rename_i n;cases h;exact adb _ _ _ _ _ (Mr A n)
  ·rename_i n;cases h;exact ada _ _ _ _ _ (Mr A n)
  cases h
 ·split at h
  ·rename_i ms o b i p q;cases h;obtain⟨r,s,w,_⟩:=m;rw[yQ p,yQ q,<-w];exact Zd _ _ _ _ ms o r a1 (by simp[s])
  ·rename_i ms o b i p q;cases h;obtain⟨r,s,w,_⟩:=m;rw[yQ p,yQ q,<-w];exact ZM _ _ _ _ ms o r a1 (by simp[s])
  cases h
 cases h
theorem abz{c:UnOp}(h:Hu c a i=some (v,m,b)):
  b5 P H ⟨d,.unOp c t x,ty,pos,af,g⟩ [a] v:=by
 unfold Hu at h;split at h<;>cases h
 ·exact adR _ _ _
 exact adT _ _ _ _
theorem Wg(c:dM P b'){i:b6}(k:dm b' t=some i)(h:FW b' (some i)=true): ∃e,P.underlying t=some (.slice e)/\P.underlying e=some (.int .u8):=by
 unfold FW at h;split at h
 ·rename_i n a;cases a;split at h
  ·rename_i e l;split at h
   ·rename_i j m;split at h
    ·rename_i b;exact⟨e,(c _ _ k).hU.2.2.2 e l,(c _ _ m).hU.2.1 _ b⟩
    cases h
   cases h
  cases h
 cases h
theorem Zv(w:dM P b'){c b:TypeId}{p:List ch}(h:GK b' c b a o=some (v,q,p))(r:cc q):
  b5 P H ⟨d,.convert c b x,ty,pos,af,g⟩ [a] v:=by
 unfold GK at h;split at h
 ·rename_i i j C D;split at h
  ·rename_i G k n m o y;cases h;obtain⟨F,s,_⟩:=w _ _ C;have A:G.wrap n=m:=r.1;rw[<-A];exact Oy _ _ _ _ _ F _ s.1 ((w _ _ D).hU.2.1 _ y)
  ·rename_i k n m o y;cases h;have A:UInt8.ofInt n=m:=r.1;rw[<-A];obtain⟨F,s,_⟩:=w _ _ C
   have:=Oy (P:=P) (H:=H) (d:=d) (ty:=ty) (pos:=pos) (af:=af) (g:=g) x c b k .u8 F n s.1 ((w _ _ D).hU.2.1 _ y);rw[aa6] at this;exact this
  ·rename_i B l o y;split at h
   ·rename_i K;cases h;have A:B=l.map qR:=r.1;obtain⟨e,L,Q⟩:=Wg w C K;rw[A];exact VO _ _ _ _ _ L Q ((w _ _ D).hU.2.2.1 y)
   cases h
  cases h
 cases h
theorem UN(x:Operand)(r gen i a:Nat)(s:TypeId)(sz:Nat)(k:List (List T))(e:List T)(L:b4 P t u z size bytes)(Q:j2 u=true)(D:H r=some (.arr s gen sz k))(o:k[i]? =some e)(V:a+size<=e.length):
  b5 P H ⟨d,.load t x,ty,pos,af,g⟩ [.ct r gen sz i a] (.agg (((e.drop a).take size).map .t)):=by
 intro Y w X ρ F R;obtain⟨q,G⟩:=iK (F r _ D);obtain⟨b,y,W⟩:=m9 R.1 G;subst y;have aV:=G;rcases(F r _ D).2 with ⟨A,B⟩|⟨fH,C,A,B,h3,f,I⟩
 ·rw[B] at o;simp at o
 rw[aV] at A;cases A;have M:i<k.length:=(bM.1 o).1;have N:e.length=sz:=f e (bC o);have p: ∀j,j<size->i*sz+a+j<C.size:=by
  intro j n
  have:(i+1)*sz<=k.length*sz:=dt _ M;rw[dC] at this;omega
 have l: ∀j,j<size->w.cell? ⟨b,i*sz+a+j,none⟩=some (C.getD (i*sz+a+j) undef):=λj n=>by
  have:=p j n;simp[World.cell?,B,this]
 refine⟨_,by simp[execOp,W,Instr.loadAt,Instr.sureAddr,L.CI w Q l];rfl,?_⟩;refine .agg _ _ bX λj c v h K=>?_;have n:j<size:=by
  have:=(bM.1 h).1;simp at this;omega
 rw[er,List.getElem?_take_of_lt n,fS] at h;simp only[List.getElem?_toArray,List.getElem?_map,List.getElem?_range n,Option.map_some,Option.some.injEq] at K;cases m:e[a+j]? with
 |none=>rw[m] at h;simp at h
 |some S=>
  rw[m] at h;simp at h;rw[<-h]
  have:=p j n;have U:=I i (a+j) e S C[i*sz+a+j] o m (by rw[<-pf];simp[this]);rw[<-K];simp only[Array.getElem?_eq_getElem this,Option.getD_some];exact .t _ _ U
theorem Mz(F:dM P b')(h:tu b' H t a b=some (v,m,l))(s:cc m):
  b5 P H ⟨d,.load t x,ty,pos,af,g⟩ [a] v:=by
 unfold tu at h;split at h
 ·cases h
 rename_i i G;obtain⟨K,p,e⟩:=(F _ _ G).agg;split at h
 ·rename_i id A;split at h
  ·rename_i cs q;split at h
   ·rename_i n;split at h
    ·rename_i o;cases h;exact aa3 _ _ _ _ p (e.trans n) q o
    cases h
   rename_i n;split at h
   ·rename_i c B;cases h;exact aa4 _ _ _ _ _ p (e.trans n) q B
   cases h
  cases h
 ·rename_i cs;split at h
  ·rename_i n;split at h
   ·rename_i o;cases h;exact WE _ _ p (e.trans n) (eB o)
   cases h
  rename_i n;split at h
  ·cases h;exact WG _ _ _ p (e.trans n)
  cases h
 ·rename_i id gen L k A;split at h
  ·rename_i w C y r b q n;split at h
   ·rename_i c B;cases h;obtain⟨rfl,rfl,D,_⟩:=s;exact UO _ _ _ _ _ _ _ _ _ _ p (e.trans n) q D B
   cases h
  ·rename_i w C y r b q n;split at h
   ·rename_i o;cases h;obtain⟨rfl,rfl,D,_⟩:=s;exact UN _ _ _ _ _ _ _ _ _ p (e.trans n) q D (eB o)
   cases h
  cases h
 cases h
theorem LW{j:Nat}: ∀{b:List (Nat×Nat×V)},rA j b=none-> ∀i v,(i,j,v)∉b
 | [],_,_,_,h=>by cases h
 |h::b,a,i,v,hm=>by
  simp only[rA] at a;cases c:Nat.beq h.2.1 j with
  |true=>rw[c] at a;cases a
  |false=>
   rw[c] at a;rcases dI.1 hm with rfl|hm
   ·simp at c
   exact LW a i v hm
theorem EB{j:Nat}{x:Nat×V}: ∀{b:List (Nat×Nat×V)},rA j b=some x->(x.1,j,x.2)∈b
 |h::b,a=>by
  simp only[rA] at a;cases c:Nat.beq h.2.1 j with
  |true=>
   rw[c] at a;cases a
   have:=cH c;subst this;exact eH
  |false=>rw[c] at a;exact eu _ (EB a)
theorem yU{S:List (Nat×Nat×V)}{k:Nat}: ∀{n j:Nat} {l:List (Nat×V)},rj S j n=some l->cc (ru k l)->l.length=n/\ ∀i v,(l.map (·.2))[i]? =some v->(k,j+i,v)∈S
 |0,_,_,h,_=>by cases h;exact⟨rfl,λi v h=>by simp at h⟩
 |n+1,j,l,h,a=>by
  simp only[rj] at h;split at h
  ·rename_i x o c m;cases h;simp only[ru] at a;obtain⟨e,a⟩:=a;obtain⟨aH,a2⟩:=yU m a;refine⟨by simp[aH],λi v b=>?_⟩;cases i with
   |zero=>
    simp at b;subst b
    have:=EB c;rw[e] at this;exact this
   |succ i=>
    have:=a2 i v (by simpa using b)
    rwa [show j+1+i=j+(i+1) by omega] at this
  cases h
theorem Xe(R:dM P b'){Q:List ch}{N:List df}(h:Gs b' H t a Q=some (v,N,W))(n:cc N):
  b5 P H ⟨d,.load t x,ty,pos,af,g⟩ [a] v:=by
 unfold Gs at h;split at h
 ·rename_i i id gen S k G r Q K;obtain⟨T,w,e⟩:=(R _ _ K).agg;split at h
  ·rename_i y m A b L B;split at h
   ·rename_i s;split at h
    ·rename_i c C D;split at h
     ·rename_i X;cases h;obtain⟨rfl,o,p,_⟩:=n;exact C4 _ _ _ _ _ y m _ b L r c _ w (e.trans s) B o p C (.inr ⟨λv=>LW D _ _,X,rfl⟩)
     cases h
    ·rename_i c U Y C D;cases h;obtain⟨rfl,o,p,rfl,_⟩:=n;exact C4 _ _ _ _ _ y m _ b _ r c _ w (e.trans s) B o p C (.inl (EB D))
    cases h
   rename_i s;split at h
   ·rename_i l f D;cases h;obtain⟨rfl,o,p,F⟩:=n;obtain⟨I,M⟩:=yU D F;exact Km _ _ _ _ _ y m _ b L r _ w (e.trans s) B o p (eB f) (by simp[I]) M
   cases h
  cases h
 ·rename_i i id gen S k G q r Q K;obtain⟨T,w,e⟩:=(R _ _ K).agg;split at h
  ·rename_i y m A b L B;split at h
   ·rename_i c U cR Y s C F;cases h;obtain⟨rfl,o,p,rfl,rfl,_⟩:=n;exact C4 _ _ _ _ _ y m _ b _ r c _ w (e.trans s) B o p C (.inl (bC F))
   ·rename_i s;split at h
    ·rename_i l f D;cases h;obtain⟨rfl,o,p,F⟩:=n;obtain⟨I,M⟩:=yU D F;exact Km _ _ _ _ _ y m _ b L r _ w (e.trans s) B o p (eB f) (by simp[I]) λj v bI=>eV (M j v bI)
    cases h
   cases h
  cases h
 ·rename_i i id gen S k G q r Q K;obtain⟨T,w,e⟩:=(R _ _ K).agg;split at h
  ·rename_i y m A b L B;split at h
   ·rename_i c s C X;cases h;obtain⟨rfl,o,p,F⟩:=n;exact C4 _ _ _ _ _ y m _ b _ r c _ w (e.trans s) B o p C (.inr ⟨wy F,X,rfl⟩)
   cases h
  cases h
 cases h
theorem Xg(B:dM P b'){k:Nat}(h:Gu b' H t k a l=some (v,c,b))(q:cc c):
  b5 P H ⟨d,.fieldAddr t x k,ty,pos,af,g⟩ [a] v:=by
 unfold Gu at h;split at h
 ·cases h
 rename_i i F;split at h
 ·rename_i Q G;obtain⟨r,w,y,_⟩:=(B _ _ F).st G;have s:P.underlying t=some (.struct r):=w.1;split at h
  ·cases h
  rename_i C m;rw[<-y,er] at m;cases p:r[k]? with
  |none=>rw[pg,p] at m;cases m
  |some K=>
  rw[pg,p] at m;simp only[Option.map_some,Option.some.injEq] at m;subst m;split at h
  ·cases h
  rename_i j L;obtain⟨R,n,_⟩:=B _ _ L;split at h
  ·cases h
  rename_i D;have o:(j.size==0)=false:=by
   rw[beq_eq_false_iff_ne];intro e;rw[e] at D;cases D
  split at h
  ·cases h;exact VN _ _ _ _ _ _ _ _ _ _ _ s p rfl n o
  ·cases h;exact WJ _ _ _ _ _ _ _ _ _ _ s p rfl n o
  ·split at h
   ·rename_i A;cases h;obtain⟨rfl,rfl,_⟩:=q;exact UQ _ _ _ _ _ _ _ _ _ _ _ _ _ _ s p rfl n o _ _ A
   ·rename_i A;cases h;obtain⟨rfl,_⟩:=q;exact UR _ _ _ _ _ _ _ _ _ _ _ _ _ _ s p rfl n o _ A rfl
   cases h
  cases h
 cases h
theorem aaz(w:dM P b'){k:Nat}(h:He b' t k a l=some (v,c,b)):
  b5 P H ⟨d,.field t x k,ty,pos,af,g⟩ [a] v:=by
 unfold He at h;split at h
 ·cases h
 rename_i i A;split at h
 ·rename_i K B;obtain⟨q,m,r,_⟩:=(w _ _ A).st B;split at h
  ·cases h
  rename_i y e;rw[<-r,er] at e;cases p:q[k]? with
  |none=>rw[pg,p] at e;cases e
  |some C=>
  rw[pg,p] at e;simp only[Option.map_some,Option.some.injEq] at e;subst e;split at h
  ·cases h
  rename_i j D;obtain⟨L,n,o⟩:=(w _ _ D).agg;split at h
  ·split at h
   ·rename_i s;split at h
    ·rename_i F;cases h;exact MZ _ _ _ _ _ _ m p n (.inl ⟨o.trans s,F,rfl⟩)
    cases h
   rename_i s;split at h
   ·rename_i G;cases h;exact MZ _ _ _ _ _ _ m p n (.inr ⟨o.trans s,G⟩)
   cases h
  cases h
 cases h
theorem k8(h:0<=n):n=((n.toNat:Nat):Int):=O
theorem aax(F:dM P b'){b:V}(h:Hd b' H t a b l=some (v,c,o))(q:cc c):
  b5 P H ⟨d,.indexAddr t x y,ty,pos,af,g⟩ [a,b] v:=by
 unfold Hd at h;split at h
 ·cases h
 rename_i i f;split at h
 ·rename_i e G;have B:P.underlying t=some (.slice e):=(F _ _ f).hU.2.2.2 e G;split at h
  ·cases h
  rename_i j K;obtain⟨I,C,_⟩:=F _ _ K;split at h
  ·rename_i p n;split at h
   ·rename_i r l;split at h
    ·rename_i w;cases h;obtain⟨L,Q⟩:=l9 (show av p n=some r from q.1);rw[k8 L];exact WI _ _ _ _ _ _ B C Q (cH w)
    cases h
   cases h
  ·rename_i id gen size A len n;split at h
   ·rename_i s M p R w;cases h;obtain⟨rfl,rfl,⟨L,Q⟩,_⟩:=q;have W:n.toNat<len:=O
    have:=cH w;subst this;have N:=VL (P:=P) (H:=H) (d:=d) (ty:=ty) (pos:=pos) (af:=af) (g:=g) x y e id s A len n.toNat _ _ R B C W
    grind
   ·rename_i m s p S R w;cases h;obtain⟨rfl,⟨L,Q⟩,_⟩:=q;have W:n.toNat<len:=O
    have:=cH w;subst this;have N:=UP (P:=P) (H:=H) (d:=d) (ty:=ty) (pos:=pos) (af:=af) (g:=g) x y e id _ A len n.toNat _ R rfl B C W
    grind
   cases h
  cases h
 ·rename_i m e G;obtain⟨T,X,D⟩:=F _ _ f;have B:P.underlying t=some (.array m e):=by
   simp only[b6.is,G] at D;rw[<-D];exact X.1
  split at h
  ·cases h
  rename_i j K;obtain⟨I,C,_⟩:=F _ _ K;split at h
  ·rename_i id A n k l;split at h
   ·rename_i w;cases h;rw[show n=(k:Int) from q.1];exact VM _ _ _ _ _ _ _ B C (eB w)
   cases h
  cases h
 cases h
theorem Xf(k:dM P b'){b:V}(h:Gt b' t a b o=some (v,m,i))(e:cc m):
  b5 P H ⟨d,.index t x y,ty,pos,af,g⟩ [a,b] v:=by
 unfold Gt at h;split at h
 ·rename_i l n c o p;cases h;obtain⟨q,r⟩:=l9 (show av l n=some c from e.1);rw[k8 q];exact ZL _ _ _ _ _ (Fi k p) r
 cases h
theorem aau(n:dM P b')(h:Ha b' H t a i=some (v,c,b))(k:cc c):
  b5 P H ⟨d,.call {callee:= .builtin .len,args:= #[x],argTypes:= #[t]},ty,pos,af,g⟩ [a] v:=by
 unfold Ha at h;split at h
 ·split at h
  ·rename_i l;cases h;exact X8 _ _ (Fi n l)
  cases h
 ·split at h
  ·rename_i l;cases h;obtain⟨e,m⟩:=zW n l;have p:=k.1;rw[<-p];exact Zc _ _ _ m
  cases h
 ·split at h
  ·rename_i o l;cases h;obtain⟨rfl,rfl,rfl,_⟩:=k;obtain⟨e,m⟩:=zW n l;exact X9 _ _ _ _ _ _ _ m _ _ o
  ·rename_i o l;cases h;obtain⟨rfl,rfl,_⟩:=k;obtain⟨e,m⟩:=zW n l;exact WH _ _ _ _ _ _ _ m _ o rfl
  cases h
 cases h
theorem Xd(F:dM P b'){s y:Option Operand}{A:List V}{S:List ch}{lK:List df}(h:Gr b' H t s y A W=some (v,lK,S))(n:cc lK):
  b5 P H ⟨d,.slice t x s y none,ty,pos,af,g⟩ A v:=by
 unfold Gr at h;split at h
 ·rename_i l I;split at h
  ·rename_i a b r W T c;cases h;obtain⟨k,U,M,rfl⟩:=Ab n.1;have p:=Fi F T;unfold rr at c;split at c
   ·cases c;rw[k8 k,k8 (O:0<=b)];exact VH _ _ _ _ _ _ p O O
   ·cases c
    have:=SU (P:=P) (H:=H) (d:=d) (ty:=ty) (pos:=pos) (af:=af) (g:=g) x ‹_› l a.toNat p O;rw[<-k8 k] at this;simpa using this
   ·cases c
    have:=S' (P:=P) (H:=H) (d:=d) (ty:=ty) (pos:=pos) (af:=af) (g:=g) x ‹_› l b.toNat p O
    grind
   cases c
  cases h
 ·rename_i B I;split at h
  ·cases h
  rename_i i G;split at h
  ·rename_i e Y;have p:P.underlying t=some (.slice e):=(F _ _ G).hU.2.2.2 e Y;split at h
   ·rename_i j a b r W K c;cases h;obtain⟨f,C,_⟩:=n;obtain⟨k,U,M,rfl⟩:=Ab f;obtain⟨qn,q,_⟩:=F _ _ K;unfold rr at c;split at c
    ·cases c;rw[k8 k,k8 (O:0<=b)];exact WB _ _ _ _ _ _ _ p q O O C
    ·cases c
     have:=Tf (P:=P) (H:=H) (d:=d) (ty:=ty) (pos:=pos) (af:=af) (g:=g) x ‹_› e B a.toNat p q O C;rw[<-k8 k] at this;simpa using this
    ·cases c
     have:=Us (P:=P) (H:=H) (d:=d) (ty:=ty) (pos:=pos) (af:=af) (g:=g) x ‹_› e B b.toNat p q O C
     grind
    cases c
   cases h
  cases h
 ·rename_i id ajq sz L len I;split at h
  ·rename_i i k' G N;split at h
   ·rename_i e Y;have p:P.underlying t=some (.slice e):=(F _ _ G).hU.2.2.2 e Y;obtain⟨HN,hH,N⟩:=Dk.1 N;have Q: ∀{a b:Int},rr s y len I=some (a,b)->0<=a->0<=b-> ∀β w X (D:Operand->Value),dh β w X I (s.toList.map D++y.toList.map D)->pW len s y D a.toNat b.toNat:=by
     intro a b c f k β w X D C;unfold rr at c;split at c
     ·cases c;refine⟨?_,?_⟩
      ·show D _=_;rw[yD f];exact du C.1
      show D _=_;rw[yD k];exact du C.2.1
     ·cases c;refine⟨?_,by show _=_;simp⟩;show D _=_;rw[yD f];exact du C.1
     ·cases c;refine⟨by show _=_;simp,?_⟩;show D _=_;rw[yD k];exact du C.1
     cases c
    split at h
    ·rename_i j a b o m W K c;cases h;obtain⟨rfl,rfl,⟨k,U,M,h4,rfl,rfl⟩,_⟩:=n;obtain⟨qn,q,_⟩:=F _ _ K;exact acw x s y e id _ L len a.toNat b.toNat HN hH N p q O O O (Q c k O)
    ·rename_i j a b W K c;cases h;obtain⟨rfl,⟨k,rfl,M⟩,_⟩:=n;obtain⟨qn,q,_⟩:=F _ _ K;exact abw x s y e id _ _ L len a.toNat HN hH N p q O (Q c k k)
    ·rename_i j a b o m W K c;split at h
     ·rename_i R;cases h;obtain⟨rfl,rfl,rfl,⟨f,k,U,M,rfl,rfl⟩,_⟩:=n;obtain⟨qn,q,_⟩:=F _ _ K;exact abv x s y e _ id _ L len a.toNat b.toNat _ R p q f O O (Q c k O)
     cases h
    cases h
   cases h
  cases h
 cases h
theorem Wr(w:dM P b'){k m:Operand}{Y:List V}{n:List ch}(h:FR b' H t Y n=some (v,q,l))(o:cc q):
  b5 P H ⟨d,.slice t x (some y) (some k) (some m),ty,pos,af,g⟩ Y v:=by
 unfold FR at h;split at h
 ·rename_i id L Q p len a b c;split at h
  ·rename_i i R r s;split at h
   ·rename_i e A;have B:P.underlying t=some (.slice e):=(w _ _ r).hU.2.2.2 e A;obtain⟨C,D,s⟩:=Dk.1 s;split at h
    ·rename_i j F;cases h;obtain⟨rfl,⟨G,W,X,f⟩,_⟩:=o;obtain⟨I,K,_⟩:=w _ _ F;rw[k8 G,k8 (O:0<=b),k8 (O:0<=c)];exact ZK x y k m e id _ _ p len a.toNat b.toNat c.toNat C D s B K O O O
    cases h
   cases h
  cases h
 cases h
theorem Zw(n:dM P b'){c:Operand}{Y:List V}(h:GL b' t Y l=some (v,m,b))(a:cc m):
  b5 P H ⟨d,.slice t x none (some c) (some y),ty,pos,af,g⟩ Y v:=by
 unfold GL at h;split at h
 ·split at h
  ·rename_i i k;split at h
   ·rename_i e o;have p:P.underlying t=some (.slice e):=(n _ _ k).hU.2.2.2 e o;split at h
    ·rename_i j q;cases h;obtain⟨⟨r,rfl⟩,s,_⟩:=a;obtain⟨B,C,w,rfl⟩:=Ab r;obtain⟨D,A,_⟩:=n _ _ q
     have:=UL (P:=P) (H:=H) (d:=d) (ty:=ty) (pos:=pos) (af:=af) (g:=g) x c y e _ _ p A (Int.toNat_le.2 w) s
     grind
    cases h
   cases h
  cases h
 cases h
theorem Vt(n:dM P b'){b:Builtin}{a:List TypeId}{c:List Operand}{Y:List V}(h:Fo b' H b a c Y l=some (v,m,i))(e:cc m):
  b5 P H ⟨d,.call {callee:= .builtin b,args:=c.toArray,argTypes:=a.toArray},ty,pos,af,g⟩ Y v:=by
 unfold Fo at h;split at h
 ·exact aau n h e
 ·split at h
  ·rename_i k;subst k;cases h;exact adA _ _ _ _ _ _
  cases h
 ·split at h
  ·rename_i k;subst k;cases h;exact adV _ _ _ _ _ _
  cases h
 cases h
theorem aaR(h:Hn H a i=some (v,c,b))(e:cc c):b5 P H ⟨d,.nilCheck x,ty,pos,af,g⟩ [a] v:=by
 unfold Hn at h;split at h
 ·split at h
  ·rename_i n k;cases h;obtain⟨rfl,_⟩:=e;obtain⟨l,m,k⟩:=Dk.1 k;exact VK _ _ _ _ _ _ l m k
  cases h
 ·cases h;exact K3 _ _ rfl
 ·cases h;exact K3 _ _ rfl
 ·cases h;exact VJ _ _ _
 cases h
theorem Xi(n:dM P b'){a:Array (Nat×Operand)}{Y:List V}(h:Gw b' t (a.toList.map (·.1)) Y l=some (v,c,b)):
  b5 P H ⟨d,.build t a,ty,pos,af,g⟩ Y v:=by
 unfold Gw at h;split at h
 ·cases h
 rename_i i o;split at h
 ·rename_i w p;split at h
  ·rename_i cs q r s;cases h;obtain⟨e,k,_,m⟩:=(n _ _ o).st p;exact aa5 a e i.places Y cs k m q (by simpa using r) s
  cases h
 cases h
theorem ac8(k:dM P b'){a:Op}{Y:List V}(h:xk P b' H a Y l=some (v,m,i))(e:cc m):
  b5 P H ⟨d,a,ty,pos,af,g⟩ Y v:=by
 unfold xk at h;split at h
 ·split at h
  ·cases h;exact acs _ _
  cases h
 ·split at h
  ·cases h;exact Ze _ _
  cases h
 ·split at h
  ·rename_i b v w c l;cases h;obtain⟨q,_⟩:=e;subst q;cases b
   ·exact UM _ _ _ _ _
   exact VI _ _ _ _ _
  cases h
 ·split at h
  ·split at h
   ·rename_i s;cases h;exact Mz k s e
   exact Xe k h e
  cases h
 ·split at h
  ·exact aaR h e
  cases h
 ·split at h
  ·split at h
   ·rename_i r o;cases h;exact aaC k o e
   split at h
   ·rename_i r o;cases h;exact aaw k o
   exact aaQ k h e
  cases h
 ·split at h
  ·exact abz h
  cases h
 ·split at h
  ·exact Zv k h e
  cases h
 ·rename_i B first p
  split at h
  ·rename_i f x;cases h
   have:first= #[]:=by simpa using x
   subst this;exact WD _ _ _
  cases h
 ·split at h
  ·exact Xd k h e
  split at h
  ·exact Wr k h e
  ·exact Zw k h e
  cases h
 ·split at h
  ·exact Xg k h e
  cases h
 ·split at h
  ·exact aaz k h
  cases h
 ·split at h
  ·exact aax k h e
  cases h
 ·split at h
  ·exact Xf k h e
  cases h
 ·split at h
  ·split at h
   ·rename_i y;cases h;exact X' _ _ _ _ y
   cases h
  cases h
 ·exact Xi k h
 ·rename_i c;obtain⟨n,args,A⟩:=c;dsimp only at h;split at h
  ·have:=Vt (d:=d) (ty:=ty) (pos:=pos) (af:=af) (g:=g) k h e;simpa using this
  cases h
 cases h
end
section
def jv(P:Program)(G:eS)(f:FuncId)(args:List V)(r:V):Prop:=d7 P f/\En P G f args r
def iA(P:Program)(G:eS)(f:FuncId)(a:List E)(args:List V)(r:V)(b:List E):Prop:=
 d7 P f/\Kl P G f a args (ι:=Unit) (λ_=>True) (λ_=>r) λ_=>b
def m6(d:Option Tmp)(v:V):List (Nat×V):=match d with
 |some d=>[(d,v)]
 |none=>[]
def jA(a:Nat):Option Tmp->Bool
 |some d=>Nat.blt d a
 |none=>true
theorem gC{K:Ctx}{d:Option Tmp}(h:jA K.nt d=true): ∀i,d=some i->Nat.blt i K.nt=true:=by intro i a;subst a;exact h
def ik:T->T
 | .e5=> .ay []
 |x=>x
variable {w:World}{X:Nat->Prop}{m:Nat}
theorem cL.x1{x:T}{v:Value}(h:cL w X x v):cL w X (ik x) v:=by
 cases h with
 |e5=>exact .fB _ _
 |bool b=>exact .bool b
 |int k n=>exact .int k n
 |str l=>exact .str l
 |fB a c=>exact .fB a c
 |ay e b m size c f p q i o r y=>exact .ay e b m size c f p q i o r y
 |gF=>exact .gF
 |gh=>exact .gh
 |mX=>exact .mX
 |err t v=>exact .err t v
theorem abr{G:Map}{k:Nat}{c:TypeId}{gen n:Nat}{z:List T}(h:cy G w X k (.arr c gen n (List.replicate m z))):cy G w X k (.arr c gen n (List.replicate m (z.map ik))):=by
 refine⟨h.1,?_⟩;rcases h.2 with ⟨q,l⟩|⟨b,r,q,l,A,D,B⟩
 ·have:m=0:=by simpa using l
  grind
 refine .inr ⟨b,r,q,l,by simpa using A,λo a=>?_,λi j o x u a e C=>?_⟩
 ·obtain⟨F,rfl⟩:=vq.1 a
  grind
 rw[sL] at a;split at a
 ·cases a;rw[er] at e;cases p:z[j]? with
  |none=>rw[p] at e;simp at e
  |some y=>
   rw[p] at e;simp at e;subst e;exact(B i j z y u (by rw[sL,aW ‹_›]) p C).x1
 cases a
def kY(a:Nat):Nat->List T->List (List T)
 |0,_=>[]
 |n+1,l=>l.take a::kY a n (l.drop a)
theorem zP(a:Nat): ∀(n:Nat) (l:List T),l.length=n*a->(kY a n l).length=n/\(∀b,b∈kY a n l->b.length=a)/\(kY a n l).flatten=l
 |0,l,h=>by
  have:l=[]:=by simpa using h
  subst this;exact⟨rfl,λ_ h=>by simp[kY] at h,rfl⟩
 |n+1,l,h=>by
  rw[dC] at h;obtain⟨c,e,i⟩:=zP a n (l.drop a) bX;refine⟨by simp[kY,c],?_,by simp[kY,i]⟩;intro b bO;simp only[kY,List.mem_cons] at bO;rcases bO with rfl|bO
  ·simp;omega
  exact e b bO
structure dE where
 P:Program
 G:eS
 b':List (Nat×b6)
 nt:Nat
 c6:Nat
 hA:Map
def idxOf(a:Nat):List Nat->Nat->Option Nat
 | [],_=>none
 |x::r,k=>bif Nat.beq x a then some k else idxOf a r (k+1)
theorem zZ{n:Nat}: ∀{L:List Nat} {k m:Nat},idxOf n L k=some m->k<=m/\L[m-k]? =some n
 | [],_,_,h=>by cases h
 |x::r,k,m,h=>by
  simp only[idxOf] at h;cases a:Nat.beq x n with
  |true=>rw[a] at h;cases h;rw[cH a];exact⟨cD _,a1⟩
  |false=>
   rw[a] at h;obtain⟨c,b⟩:=zZ (L:=r) (k:=k+1) h;refine⟨O,?_⟩;rw[show m-k=(m-(k+1))+1 by omega];simpa using b
mutual
def sG(L:List Nat):V->Option V
 | .ref id a=>match idxOf id L 0 with
  |some k=>some (.ref k a)
  |none=>none
 | .a7 id gen size a len=>match idxOf id L 0 with
  |some k=>some (.a7 k gen size a len)
  |none=>none
 | .fn f cs=>match sF L cs with
  |some cs=>some (.fn f cs)
  |none=>none
 | .ct id gen size i a=>match idxOf id L 0 with
  |some k=>some (.ct k gen size i a)
  |none=>none
 | .t x=>some (.t x)
 | .aK x=>some (.aK x)
 | .agg cs=>match sF L cs with
  |some cs=>some (.agg cs)
  |none=>none
 |_=>none
def sF(L:List Nat):List V->Option (List V)
 | []=>some []
 |c::cs=>match sG L c,sF L cs with
  |some c,some cs=>some (c::cs)
  |_,_=>none
end
mutual
theorem adh{L:List Nat}: ∀(v c:V),sG L v=some c->c.dA L=v/\c.ok (eN L.length)=true
 | .ref id m,c,h=>by
  simp only[sG] at h;split at h
  ·rename_i k n;cases h;obtain⟨_,a⟩:=zZ n;simp only[Nat.sub_zero] at a;have b:=(bM.1 a).1;exact⟨by simp[V.dA,List.getD_eq_getElem?_getD,a],iB.2 b⟩
  cases h
 | .a7 id gen size m len,c,h=>by
  simp only[sG] at h;split at h
  ·rename_i k n;cases h;obtain⟨_,a⟩:=zZ n;simp only[Nat.sub_zero] at a;have b:=(bM.1 a).1;exact⟨by simp[V.dA,List.getD_eq_getElem?_getD,a],iB.2 b⟩
  cases h
 | .ct id gen size i m,c,h=>by
  simp only[sG] at h;split at h
  ·rename_i k n;cases h;obtain⟨_,a⟩:=zZ n;simp only[Nat.sub_zero] at a;have b:=(bM.1 a).1;exact⟨by simp[V.dA,List.getD_eq_getElem?_getD,a],iB.2 b⟩
  cases h
 | .fn f cs,c,h=>by
  simp only[sG] at h;split at h
  ·rename_i e l;cases h;obtain⟨o,a⟩:=wN cs e l;exact⟨by simp[V.dA,o],by simpa[V.ok] using a⟩
  cases h
 | .agg cs,c,h=>by
  simp only[sG] at h;split at h
  ·rename_i e l;cases h;obtain⟨o,a⟩:=wN cs e l;exact⟨by simp[V.dA,o],by simpa[V.ok] using a⟩
  cases h
 | .t x,c,h=>by cases h;exact⟨rfl,rfl⟩
 | .aK x,c,h=>by cases h;exact⟨rfl,rfl⟩
 | .bJ _,_,h| .cX,_,h=>by cases h
theorem wN{L:List Nat}: ∀(cs a:List V),sF L cs=some a->ij L a=cs/\gg (eN L.length) a=true
 | [],_,h=>by cases h;exact⟨rfl,rfl⟩
 |c::cs,a,h=>by
  simp only[sF] at h;split at h
  ·rename_i e b i k;cases h;obtain⟨aH,a2⟩:=adh c e i;obtain⟨l,m⟩:=wN cs b k;exact⟨by simp[ij,aH,l],by simp[gg,a2,m]⟩
  cases h
end
def tJ(L:List Nat)(H:Nat->Option E):List Nat->Option (List E)
 | []=>some []
 |id::b=>match H id with
  |some (.cells cs)=>match sF L cs,tJ L H b with
   |some cs,some c=>some (.cells cs::c)
   |_,_=>none
  |some (.arr ty gen size a)=>match tJ L H b with
   |some c=>some (.arr ty gen size a::c)
   |none=>none
  |some (.a6 e m gen a [])=>match tJ L H b with
   |some c=>some (.a6 e m gen a []::c)
   |none=>none
  |some (.a6 _ _ _ _ (_::_))=>none
  |none=>none
theorem zY{L:List Nat}{H:Nat->Option E}: ∀(a:List Nat) (gq:List E),tJ L H a=some gq->gq.length=a.length/\ ∀(k:Nat) (e:E),gq[k]? =some e-> ∃id,a[k]? =some id/\H id=some (e.dA L)/\e.ok (eN L.length)=true
 | [],_,h=>by cases h;exact⟨rfl,λk e h=>by simp at h⟩
 |id::a,gq,h=>by
  simp only[tJ] at h;split at h
  ·rename_i cs hid;split at h
   ·rename_i q i r l;cases h;obtain⟨aH,a2⟩:=zY a i l;obtain⟨w,x⟩:=wN cs q r;refine⟨by simp[aH],λk e b=>?_⟩;cases k with
    |zero=>simp at b;subst b;exact⟨id,rfl,by rw[hid];simp only[E.dA,w],x⟩
    |succ k=>simp at b;obtain⟨c,n,o⟩:=a2 k e b;exact⟨c,by simpa using n,o⟩
   cases h
  ·rename_i ty gen size p hid;split at h
   ·rename_i i l;cases h;obtain⟨aH,a2⟩:=zY a i l;refine⟨by simp[aH],λk e b=>?_⟩;cases k with
    |zero=>simp at b;subst b;exact⟨id,rfl,hid,rfl⟩
    |succ k=>simp at b;obtain⟨c,n,o⟩:=a2 k e b;exact⟨c,by simpa using n,o⟩
   cases h
  ·rename_i y m gen p hid;split at h
   ·rename_i i l;cases h;obtain⟨aH,a2⟩:=zY a i l;refine⟨by simp[aH],λk e b=>?_⟩;cases k with
    |zero=>simp at b;subst b;exact⟨id,rfl,hid,rfl⟩
    |succ k=>simp at b;obtain⟨c,n,o⟩:=a2 k e b;exact⟨c,by simpa using n,o⟩
   cases h
  ·cases h
  cases h
def A4(a:Nat):List Nat->Bool
 | []=>true
 |x::l=>bif Nat.beq x a then false else A4 a l
theorem Mw{n:Nat}: ∀{l:List Nat},A4 n l=true->n∉l
 | [],_,h=>by cases h
 |x::l,h,hm=>by
  simp only[A4] at h;cases a:Nat.beq x n with
  |true=>rw[a] at h;cases h
  |false=>
   rw[a] at h;rcases dI.1 hm with rfl|hm
   ·simp at a
   exact Mw h hm
def AO:List Nat->Bool
 | []=>true
 |x::l=>A4 x l&&AO l
theorem zi: ∀{l:List Nat},AO l=true->l.Nodup
 | [],_=>List.nodup_nil
 |x::l,h=>by simp only[AO,Bool.and_eq_true] at h;exact List.nodup_cons.2 ⟨Mw h.1,zi h.2⟩
def Ao(u:Nat->Bool):List Nat->Bool
 | []=>true
 |x::l=> !u x&&Ao u l
theorem K7{u:Nat->Bool}: ∀{l:List Nat},Ao u l=true-> ∀id,id∈l->u id=false
 | [],_,_,h=>by cases h
 |x::l,h,id,hm=>by
  simp only[Ao,Bool.and_eq_true,Bool.not_eq_true'] at h;rcases dI.1 hm with rfl|hm
  ·exact h.1
  exact K7 h.2 id hm
theorem Ll{u:Nat->Bool}{n:Nat}: ∀{l:List Nat},n∈l->d4 u (l.map λk=>(k,true)) n=true
 |x::l,h=>by
  simp only[List.map_cons,d4];by_cases a:n∈l
  ·rw[As _ _ u _ ⟨true,et.2 ⟨n,a,rfl⟩⟩];exact Ll a
  rcases dI.1 h with rfl|h
  ·rw[l3 _ _ _ (λv b=>a (by obtain⟨y,c,e⟩:=et.1 b;cases e;exact c)),bQ]
  exact bt h a
theorem K2{a:Type}: ∀(L:List Nat),L.Nodup-> ∀(f:Nat->a) (b:List a) (g:Nat->a),b.length=L.length->(∀(k:Nat) x,b[k]? =some x->g k=x)->d4 f (L.zip b)=kO f L g
 | [],_,f,b,g,_,_=>by simp[d4,kO]
 |l::L,c,f,[],g,h,_=>by simp at h
 |l::L,c,f,x::b,g,h,n=>by
  simp only[List.nodup_cons] at c;simp only[List.zip_cons_cons,d4,kO];rw[K2 L c.2 (aQ f l x) b (λk=>g (k+1)) (by simpa using h) (λk y p=>n (k+1) y (by simpa using p)),n 0 x rfl];funext i;by_cases e:i=l
  ·subst e;rw[mN c.1,bQ,bQ]
  rw[bR _ _ _ _ e];by_cases m:i∈L
  ·obtain⟨k,o⟩:=iQ.1 m;rw[nQ c.2 o,nQ c.2 o]
  rw[mN m,mN m,bR _ _ _ _ e]
abbrev iz:=Option (cM×List df×List ch)
def tO(d:Option Tmp)(u:Nat->Bool)(v:V)(a:List ch):iz:=
 match a with
 | .nat k::a=>match u k,v.val with
  |false,true=>some (⟨m6 d (.ref k 0),[(k,some (.cells v.cs))],[(k,true)]⟩,[],a)
  |_,_=>none
 |_=>none
def GN(d:Option Tmp)(v:V)(a:List ch):iz:=
 match a with
 | .b true::a=>match (mY v).val,k3 (mY v).cs with
  |true,some c=>some (⟨m6 d (.aK c),[],[]⟩,[],a)
  |_,_=>none
 |_=>none
def QL:List ch->Bool
 | .b true::_=>true
 |_=>false
def Gq(C:dE)(t:TypeId)(H:Nat->Option E)(a v:V)(n:List ch):iz:=
 match dm C.b' t with
 |none=>none
 |some i=>match a with
  | .ref id b=>match H id with
   |some (.cells cs)=>match v.val,nf v.cs,Nat.beq v.cs.length i.size,Nat.ble (b+i.size) cs.length with
    |true,true,true,true=>some (⟨[],[(id,some (.cells (mj cs b v.cs)))],[]⟩,[],n)
    |_,_,_,_=>none
   |_=>none
  | .ct id gen w k b=>match H id,k3 (mY v).cs,n with
   |some (.arr e h m l),some o,.row r:: .rows c::n=>match (mY v).val,Nat.beq o.length i.size,Nat.ble (b+i.size) w with
    |true,true,true=>some (⟨[],[(id,some (.arr e h m c))],[]⟩,
      [.q h gen,.q m w,.p (l[k]? =some r),.p (c=l.set k (r.take b++o++r.drop (b+o.length)))],n)
    |_,_,_=>none
   |_,_,_=>none
  |_=>none
def tA(k a n:Nat):List (Nat×Nat×V)->List df
 | []=>[]
 |h::b=>bif Nat.ble a h.2.1&&Nat.blt h.2.1 (a+n) then .q h.1 k::tA k a n b else tA k a n b
def tB(k a n:Nat):List (Nat×Nat×V)->List df
 | []=>[]
 |h::b=>bif Nat.ble a h.2.1&&Nat.blt h.2.1 (a+n) then .p (h.1≠k)::tB k a n b else tB k a n b
def FQ(C:dE)(t:TypeId)(H:Nat->Option E)(a v:V)(o:List ch):iz:=
 match dm C.b' t,a,o with
 |some i,.ct id gen x k b,.row r::o=>match H id with
  |some (.a6 w m c e h)=>match v.val&&(nf v.cs&&(Nat.beq v.cs.length i.size&&(Nat.ble (b+i.size) r.length&&Nat.blt 0 i.size))),rj h b i.size with
   |true,some l=>some (⟨[],[(id,some (.a6 w m c e (pN b v.cs h)))],[]⟩,.q c gen:: .q (U w m).size x:: .p (e[k]? =some r)::(ru k l++tA k b i.size h),o)
   |_,_=>none
  |_=>none
 |some i,.ct id gen x k b,.int q:: .nat n:: .row r::o=>match H id with
  |some (.a6 w m c e h)=>match v.val&&(nf v.cs&&(Nat.beq v.cs.length i.size&&(Nat.ble (b+i.size) r.length&&Nat.blt 0 i.size))),rj ((h.drop q.toNat).take n) b i.size with
   |true,some l=>some (⟨[],[(id,some (.a6 w m c e (h.take q.toNat++(pN b v.cs ((h.drop q.toNat).take n)++(h.drop q.toNat).drop n))))],[]⟩,
     .q c gen:: .q (U w m).size x:: .p (e[k]? =some r)::(ru k l++(tA k b i.size ((h.drop q.toNat).take n)++(tB k b i.size (h.take q.toNat)++tB k b i.size ((h.drop q.toNat).drop n)))),o)
   |_,_=>none
  |_=>none
 |_,_,_=>none
def wI(z:List T):List (Nat×Nat)->Bool
 | []=>true
 |p::l=>(match z[p.1]? with|some .e5=>true|_=>false)&&wI z l
def GG(C:dE)(d:Option Tmp)(t:TypeId)(u:Nat->Bool)(v w:V)(b:List ch):iz:=
 match dm C.b' t with
 |none=>none
 |some i=>match i.u with
  | .slice e=>match dm C.b' e with
   |none=>none
   |some j=>match v,w,b,k3 (gB j.z).cs with
    | .t (.int .i64 n),.t (.int .i64 m),.nat k:: .rows R::b,some a=>match u k,(gB j.z).val,Nat.beq a.length j.size,Nat.blt 0 j.size&&Nat.ble j.bytes 200000 with
     |false,true,true,true=>some (⟨m6 d (.a7 k 1 j.size 0 R.length),[(k,some (.arr e 1 j.size R))],[(k,true)]⟩,[.q n.toNat m.toNat,.p (mk n (a.map ik)=some R),.p (0<=m)],b)
     |_,_,_,_=>none
    | .t (.int .i64 n),.t (.int .i64 m),.nat k:: .ee _ c q:: .rows R::b,some a=>match u k,(gB j.z).val&&wI a (U c q).bj,Nat.beq a.length j.size,Nat.blt 0 j.size&&Nat.ble j.bytes 200000 with
     |false,true,true,true=>some (⟨m6 d (.a7 k 1 j.size 0 R.length),[(k,some (.a6 c q 1 R []))],[(k,true)]⟩,[.q (U c q).ty e,.q (U c q).size j.size,.q n.toNat m.toNat,.p (mk n (a.map ik)=some R),.p (0<=m)],b)
     |_,_,_,_=>none
    |_,_,_,_=>none
  |_=>none
def FT(C:dE)(d:Option Tmp)(t o:TypeId)(H:Nat->Option E)(v w:V)(l:List ch):iz:=
 match dm C.b' t with
 |none=>none
 |some i=>match i.u with
  | .slice e=>match dm C.b' e with
   |none=>none
   |some j=>match v,mY w,l with
    | .a7 k gen size m len,.t (.ay h),.rows R::l=>match H k with
     |some (.arr n a b c)=>match Nat.beq m 0,Nat.beq j.z.cells.size j.size&&(Nat.blt 0 j.size&&Nat.ble j.bytes 140000),Nat.beq n e&&Nat.beq o t with
      |true,true,true=>some (⟨m6 d (.a7 k (a+1) size 0 R.length),[(k,some (.arr n (a+1) b R))],[]⟩,
        [.q a gen,.q b size,.q size j.size,.q len c.length,.p (app c h=some R),.p (Rows j.size c),.p (Rows j.size h)],l)
      |_,_,_=>none
     |_=>none
    |_,_,_=>none
  |_=>none
def Fp(C:dE)(d:Option Tmp)(t y:TypeId)(H:Nat->Option E)(v w:V)(o:List ch):iz:=
 match dm C.b' t with
 |none=>none
 |some i=>match i.u with
  | .slice e=>match dm C.b' e with
   |none=>none
   |some j=>match v,w,o with
    | .a7 k gen size l len,.a7 dU F G A r,.rows R::o=>match H k,H dU with
     |some (.a6 x m b a []),some (.a6 B W D (L::h) n)=>match Nat.beq l 0&&Nat.beq A 0,Nat.beq j.z.cells.size j.size&&(Nat.blt 0 j.size&&Nat.ble j.bytes 140000),Nat.beq y t&&(wv (U x m) (h.length+1) n&&tg n) with
      |true,true,true=>some (⟨m6 d (.a7 k (b+1) size 0 R.length),[(k,some (.a6 x m (b+1) R (ho a.length n)))],[]⟩,
        [.q b gen,.q D F,.q G size,.q size j.size,.q (U x m).size size,.q (U x m).ty e,.q r (h.length+1),.q len a.length,.p (U B W=U x m),.p (app a (L::h)=some R),.p (Rows j.size a),.p (Rows j.size (L::h))],o)
      |_,_,_=>none
     |some (.arr Q b c a),some _=>match Nat.beq dU k&&Nat.beq l 0,Nat.beq Q e&&(Nat.beq y t&&Nat.blt 0 j.size) with
      |true,true=>some (⟨m6 d (.a7 k gen size 0 (len+r)),[(k,some (.arr Q b c R))],[]⟩,
        [.q b gen,.q F gen,.q c size,.q G size,.q j.size size,.p (len+r<=a.length),.p (A+r<=a.length),.p (R=a.take len++(a.drop A).take r++a.drop (len+r))],o)
      |_,_=>none
     |_,_=>none
    | .a7 k gen size l len,.t (.ay []),.int 0::o=>match H k with
     |some (.arr _ b c _)=>match Nat.beq l 0&&Nat.blt 0 j.size,Nat.beq y t with
      |true,true=>some (⟨m6 d (.a7 k gen size 0 len),[],[]⟩,[.q b gen,.q c size,.q j.size size],o)
      |_,_=>none
     |_=>none
    |_,_,_=>none
  |_=>none
def vU(d:dG):Nat->List V->Option (List T×List (Nat×Nat×V))
 |_,[]=>some ([],[])
 |j,v::b=>match vU d (j+1) b with
  |none=>none
  |some (r,a)=>match d.ej j with
   |some _=>bif v.one then some (.ay []::r,(0,j,v)::a) else none
   |none=>match yA v with
    |some x=>some (x::r,a)
    |none=>none
def pL:Nat->List V->List (Nat×Nat×V)
 |_,[]=>[]
 |i,v::vs=>(i,0,v)::pL (i+1) vs
def GH(C:dE)(d:Option Tmp)(t:TypeId)(n:Nat)(h:List Nat)(u:Nat->Bool)(a:List V)(c:List ch):iz:=
 match dm C.b' t with
 |none=>none
 |some i=>match i.u with
  | .slice e=>match dm C.b' e with
   |none=>none
   |some j=>match n,c with
    |1,.lt k b m::c=>match kl (λi=>some (i*j.size,j.size)) (List.replicate (1*j.size) .cX) (h.zip (tS ((U b m).ej 0) a)) with
     |none=>none
     |some cs=>match vU (U b m) 0 cs with
      |none=>none
      |some (r,l)=>match u k,Nat.beq cs.length j.size&&Nat.beq (U b m).size j.size,Nat.beq h.length a.length&&Nat.beq (U b m).ty e,Nat.ble (1*j.size) 16777216,Nat.blt 0 j.size with
       |false,true,true,true,true=>some (⟨m6 d (.a7 k 1 j.size 0 1),[(k,some (.a6 b m 1 [r] l))],[(k,true)]⟩,[],c)
       |_,_,_,_,_=>none
    |n,.lt k b m::c=>match kl (λi=>some (i*j.size,j.size)) (List.replicate (n*j.size) .cX) (h.zip (gu a)) with
     |none=>none
     |some cs=>match u k,Nat.beq j.size 1&&(Nat.beq cs.length n&&nf cs),Nat.beq h.length a.length&&(Nat.beq (U b m).ty e&&Nat.beq (U b m).size 1),Nat.ble (n*j.size) 16777216,Nat.blt 0 n with
      |false,true,true,true,true=>some (⟨m6 d (.a7 k 1 1 0 n),[(k,some (.a6 b m 1 (List.replicate n [.ay []]) (pL 0 cs)))],[(k,true)]⟩,[],c)
      |_,_,_,_,_=>none
    |_,_=>none
  |_=>none
def Ho(C:dE)(d:Option Tmp)(t:TypeId)(n:Nat)(b:List Nat)(u:Nat->Bool)(a:List V)(c:List ch):iz:=
 match dm C.b' t with
 |none=>none
 |some i=>match i.u with
  | .slice e=>match dm C.b' e with
   |none=>none
   |some j=>match n,b,c with
    |0,[],.nat k::c=>match u k with
     |false=>some (⟨m6 d (.a7 k 1 j.size 0 0),[(k,some (.arr e 1 j.size []))],[(k,true)]⟩,[],c)
     |true=>none
    |n,b,.int 1:: .nat k::c=>match kl (λi=>some (i*j.size,j.size)) (List.replicate (n*j.size) .cX) (b.zip (gu a)) with
     |none=>none
     |some cs=>match k3 cs with
      |none=>none
      |some h=>match u k,Nat.beq h.length (n*j.size),Nat.beq b.length a.length,Nat.ble (n*j.size) 16777216,Nat.blt 0 j.size with
       |false,true,true,true,true=>some (⟨m6 d (.a7 k 1 j.size 0 (kY j.size n h).length),[(k,some (.arr e 1 j.size (kY j.size n h)))],[(k,true)]⟩,[],c)
       |_,_,_,_,_=>none
    |n,b,.int 2:: .rows R::c=>match kl (λi=>some (i*j.size,j.size)) (List.replicate (n*j.size) .cX) (b.zip (gu a)) with
     |none=>none
     |some cs=>match k3 cs with
      |none=>none
      |some h=>match Nat.beq h.length (n*j.size),Nat.beq b.length a.length,Nat.ble (n*j.size) 16777216 with
       |true,true,true=>some (⟨m6 d (.t (.ay R)),[],[]⟩,[.p (kY j.size n h=R)],c)
       |_,_,_=>none
    |n,b,.int 0::c=>match kl (λi=>some (i*j.size,j.size)) (List.replicate (n*j.size) .cX) (b.zip (gu a)) with
     |none=>none
     |some cs=>match k3 cs with
      |none=>none
      |some h=>match Nat.beq h.length (n*j.size),Nat.beq b.length a.length,Nat.ble (n*j.size) 16777216 with
       |true,true,true=>some (⟨m6 d (.t (.ay (kY j.size n h))),[],[]⟩,[],c)
       |_,_,_=>none
    |_,_,_=>none
  |_=>none
mutual
def rz:V->Bool
 | .t (.int _ _)| .t (.bool _)| .t (.str _)=>true
 | .agg cs=>tN cs
 | .bJ cs=>tN cs
 |_=>false
def tN:List V->Bool
 | []=>true
 |c::cs=>rz c&&tN cs
end
def w7(H:Nat->Option E):V->Option (T×List df)
 | .a7 k gen size e len=>match H k with
  |some (.arr _ b c a)=>some (.ay a,[.q gen b,.q size c,.q e 0,.q len a.length])
  |some (.a6 h m b a [])=>some (.ay a,[.q gen b,.q size (U h m).size,.q e 0,.q len a.length])
  |_=>none
 | .t x=>some (ik x,[])
 |_=>none
def Ba(H:Nat->Option E):List V->Option (List T×List df)
 | []=>some ([],[])
 |v::a=>match w7 H v,Ba H a with
  |some (x,b),some (c,e)=>some (x::c,b++e)
  |_,_=>none
mutual
def mF(H:Nat->Option E):V->Option (V×List df)
 | .a7 k gen size b len=>match w7 H (.a7 k gen size b len) with
  |some (x,a)=>some (.t x,a)
  |none=>none
 | .t x=>some (.t (ik x),[])
 | .aK cs=>some (.aK cs,[])
 | .ref id b=>match H id with
  |some (.cells cs)=>match Ba H cs with
   |some (e7,a)=>some (.aK (e7.drop b),a)
   |none=>none
  |_=>none
 | .agg cs=>match oG H cs with
  |some (c,a)=>some (.agg c,a)
  |none=>none
 | .bJ cs=>match oG H cs with
  |some (c,a)=>some (.bJ c,a)
  |none=>none
 | .fn f cs=>match oG H cs with
  |some (c,a)=>some (.fn f c,a)
  |none=>none
 | .ct _ _ _ _ _=>none
 | .cX=>none
def oG(H:Nat->Option E):List V->Option (List V×List df)
 | []=>some ([],[])
 |v::a=>match mF H v,oG H a with
  |some (x,b),some (c,e)=>some (x::c,b++e)
  |_,_=>none
end
def Pn:List ch->List ch
 | .nat _::hs=>Pn hs
 |hs=>hs
def Hf(C:dE)(d:Option Tmp)(H:Nat->Option E)(a:List V)(c:List ch):iz:=
 match a with
 | .fn f b::args=>match Pn (c.drop 1) with
  | .v r::c=>match oG H (args++b),rz r with
   |some (e,h),true=>some (⟨m6 d r,[],[]⟩,h++[.p (jv C.P C.G f e r)],c)
   |_,_=>none
  |_=>none
 |_=>none
def GM(C:dE)(d:Option Tmp)(b:List V)(c:List ch):iz:=
 match b with
 | .fn f a::args=>match c with
  | .v r::c=>match gg gf (gu (args++a)) with
   |true=>some (⟨m6 d r,[],[]⟩,[.p (jv C.P C.G f (gu (args++a)) r)],c)
   |false=>none
  | .nat _:: .v r::c=>some (⟨m6 d r,[],[]⟩,[.p (gg gf (gu (args++a))=true),.p (jv C.P C.G f (gu (args++a)) r)],c)
  |_=>none
 |_=>none
def Ht(C:dE)(d:Option Tmp)(c:List V)(H:Nat->Option E)(u:Nat->Bool)(i:List ch):iz:=
 match c with
 | .fn f h::args=>match i with
  | .dy L a r out::i=>match sF L (gu (args++h)),tJ L H L,AO (L++a)&&Ao u a&&Nat.beq out.length (L++a).length with
   |some b,some gq,true=>some (⟨m6 d (r.dA (L++a)),(L++a).zip (out.map λe=>some (e.dA (L++a))),(L++a).map λk=>(k,true)⟩,[.p (iA C.P C.G f gq b r out)],i)
   |_,_,_=>none
  |_=>none
 |_=>none
def Gv(C:dE)(t:TypeId)(H:Nat->Option E)(v:V)(l:List ch):iz:=
 match dm C.b' t with
 |none=>none
 |some i=>match i.u with
  | .slice e=>match dm C.b' e with
   |none=>none
   |some j=>match v,l,k3 (gB j.z).cs with
    | .a7 k gen size h len,.rows R::l,some m=>match H k,(gB j.z).val with
     |some (.arr n c a b),true=>some (⟨[],[(k,some (.arr n c a R))],[]⟩,[.q c gen,.q a size,.q m.length size,.p (h+len<=b.length/\R=b.take h++List.replicate len (m.map ik)++b.drop (h+len))],l)
     |_,_=>none
    |_,_,_=>none
  |_=>none
def GJ(C:dE)(d:Option Tmp)(t:TypeId)(H:Nat->Option E)(v w:V)(n:List ch):iz:=
 match dm C.b' t with
 |none=>none
 |some i=>match i.u with
  | .slice e=>match dm C.b' e with
   |none=>none
   |some j=>match v,mY w,n with
    | .a7 k gen size l len,.t (.ay a),.rows R:: .nat m::n=>match H k,Nat.blt 0 j.size with
     |some (.arr o h b c),true=>some (⟨m6 d (.t (.int .i64 m)),[(k,some (.arr o h b R))],[]⟩,
       [.q h gen,.q b size,.q size j.size,.q m (Nat.min a.length len),.p (Rows j.size a),.p (l+len<=c.length/\R=c.take l++a.take m++c.drop (l+m))],n)
     |_,_=>none
    |_,_,_=>none
  |_=>none
def ad3:List ch->Bool
 | .dy _ _ _ _::_=>true
 |_=>false
def HP(C:dE)(o:Oper)(b:List V)(H:Nat->Option E)(u:Nat->Bool)(e:List ch):iz:=
 match jA C.nt o.dst with
 |false=>none
 |true=>match o.op with
  | .box _ _=>match b with
   | [v]=>match QL e with
    |true=>GN o.dst v e
    |false=>tO o.dst u v e
   |_=>none
  | .alloc t=>match dm C.b' t with
   |some i=>tO o.dst u (gB i.z) e
   |none=>none
  | .store t _ _=>match o.dst,b with
   |none,[a,v]=>match Gq C t H a v e with
    |some r=>some r
    |none=>FQ C t H a v e
   |_,_=>none
  | .makeSlice t _ _=>match b with
   | [v,w]=>GG C o.dst t u v w e
   |_=>none
  | .buildSlice t n k=>match Ho C o.dst t n (k.toList.map (·.1)) u b e with
   |some r=>some r
   |none=>GH C o.dst t n (k.toList.map (·.1)) u b e
  | .call c=>match c.callee with
   | .value _=>match ad3 e with
    |true=>Ht C o.dst b H u e
    |false=>match QL e with
     |true=>Hf C o.dst H b e
     |false=>GM C o.dst b e
   | .builtin .append=>match c.args.toList,c.argTypes.toList,b with
    | [_,_],[t,l],[v,w]=>match FT C o.dst t l H v w e with
     |some r=>some r
     |none=>Fp C o.dst t l H v w e
    |_,_,_=>none
   | .builtin .clear=>match o.dst,c.args.toList,c.argTypes.toList,b with
    |none,[_],[t],[v]=>Gv C t H v e
    |_,_,_,_=>none
   | .builtin .copy=>match c.args.toList,c.argTypes.toList,b with
    | [_,_],[t,_],[v,w]=>GJ C o.dst t H v w e
    |_,_,_=>none
   | .builtin _=>match xk C.P C.b' H o.op b e with
    |some (v,h,e)=>some (⟨m6 o.dst v,[],[]⟩,h,e)
    |none=>none
   |_=>none
  |_=>match xk C.P C.b' H o.op b e with
   |some (v,h,e)=>some (⟨m6 o.dst v,[],[]⟩,h,e)
   |none=>none
theorem abt{z:Value}{a:List T}(i:(gB z).val=true)(k:k3 (gB z).cs=some a):z.cells.size=a.length/\ ∀(w:World) (X:Nat->Prop) (j:Nat) (u:Value) (x:T),z.cells[j]? =some u->(a.map ik)[j]? =some x->cL w X x u:=by
 have h:=fun(w:World) (X:Nat->Prop)=>(yv (⟨λ_=>none,λ_ _=>False⟩:Map) w X z).cells i;have e:=nV k;refine⟨by rw[(h default λ_=>False).1,e,dj],λw X j u x l b=>?_⟩;rw[er] at b;cases c:a[j]? with
 |none=>rw[c] at b;cases b
 |some y=>
  rw[c] at b;simp only[Option.map_some,Option.some.injEq] at b;subst b
  have:=(h w X).2 j (.t y) u (by rw[e,er,c];rfl) l;cases this with
  |t _ _ m=>exact m.x1
section steps
variable {K:Ctx}{s:S}{d:Option Tmp}{ty:TypeId}{pos:String}{af:Array Edge}{g:Option (Nat×Bool)}
variable {t:TypeId}{u:TypeDesc}{z:Value}{size bytes gen:Nat}
theorem Ur(a:Array Value)(n i j:Nat)(e:i<n)(c:j<a.size):(Builtin.zeroCells a n).toList[i*a.size+j]? =a[j]? :=by
 have b:i*a.size+j<n*a.size:=by
  have:(i+1)*a.size<=n*a.size:=dt _ e
  grind
 have h:(i*a.size+j)%a.size=j:=by rw[Nat.mul_comm,Nat.mul_add_mod];exact Nat.mod_eq_of_lt c
 simp[Builtin.zeroCells,b,h,c]
theorem abR(x:Operand)(E c h:Nat)(e e':TypeId)(rows:List (List T))(A:List T)(hx:s.get x= .a7 E gen size c h)(hH:s.H E=some (.arr e' gen size rows))(eO:K.P.underlying t=some (.slice e)){sz:Nat}(he:b4 K.P e u z sz bytes)
  (bI:(gB z).val=true) (eG:k3 (gB z).cs=some A) (G:A.length=size) (b9:c+h<=rows.length):
  dL K ⟨none,.call {callee:= .builtin .clear,args:= #[x],argTypes:= #[t]},ty,pos,af,g⟩ s {s with H:=aQ s.H E (some (.arr e' gen size (rows.take c++List.replicate h (A.map ik)++rows.drop (c+h))))}:=by
 intro β a w next Q bO I
 have L:=bO.get x;rw[hx] at L;have M:=(bO.heap E _ hH).2;obtain⟨q,N⟩:=iK M;obtain⟨qb,U⟩:=abt bI eG;unfold Oper.wp;cases h with
 |zero=>
  obtain⟨fW,cap,o⟩: ∃fW cap,a.eval x= .slice fW 0 cap:=by
   rcases eT L N with ⟨cap,b,n,gV,o,_⟩|⟨_,_,_,o⟩
   ·exact⟨_,cap,o⟩
   exact⟨none,0,o⟩
  have y:(execOp a.eval ⟨none,.call {callee:= .builtin .clear,args:= #[x],argTypes:= #[t]},ty,pos,af,g⟩).run K.P w= .ok (.value (.tuple #[])) w:=by
   cases fW<;>simp[execOp,resolve,invoke,builtin,o,Builtin.clear_,run_underlying eO]
  rw[y]
  have:rows.take c++List.replicate 0 (A.map ik)++rows.drop (c+0)=rows:=a1
  refine I β _ _ ?_;rw[this];exact bO.ym E _ hH
 |succ h=>
  rcases eT L N with ⟨cap,b,n,gV,o,jc,hw,hs,cu,oP,hm⟩|⟨_,_,h0,_⟩
  ·subst jc;rcases M.2 with ⟨V,_⟩|⟨cd,C,V,h2,h3,h4,h5⟩
   ·rw[N] at V;cases V
   rw[N] at V;cases V;have D:z.cells.size=size:=by rw[qb,G]
   have p:(Builtin.zeroCells z.cells (h+1)).toList.length=(h+1)*size:=by rw[ni,size_zeroCells,D]
   have mR:c*size+(h+1)*size<=C.size:=by
    have:(c+(h+1))*size<=rows.length*size:=dt _ b9;rw[dC] at this;omega
   have r: ∀(i j:Nat) (u:Value),i<h+1->j<size->(Builtin.zeroCells z.cells (h+1)).toList[i*size+j]? =some u->z.cells[j]? =some u:=by
    intro i j u aD F hu;rw[<-D] at F hu
    rwa [Ur _ _ _ _ aD F] at hu
   have Y: ∀v∈(Builtin.zeroCells z.cells (h+1)).toList,v.oneCell'=true:=by
    intro v agi;obtain⟨k,I⟩:=iQ.1 agi;have R:=(bM.1 I).1;rw[p] at R;have hp:0<size:=by
     rcases Nat.eq_zero_or_pos size with e0|e0
     ·rw[e0] at R;omega
     exact e0
    have hdiv:k / size<h+1:=(vo hp).2 R;have Qq:k%size<size:=Nat.mod_lt _ hp;have oO:(Builtin.zeroCells z.cells (h+1)).toList[k / size*size+k%size]? =some v:=by rw[Nat.div_add_mod'];exact I
    have h9:=r _ _ _ hdiv Qq oO
    have:(A.map ik)[k%size]? =some (ik A[k%size]):=by rw[er,bg O];rfl
    exact(bh.t (β:=β) _ _ (U w (λ_=>False) _ _ _ h9 this)).im rfl
   have oS:=run_storeCells_at K.P b (c*size) e' (Builtin.zeroCells z.cells (h+1)).toList 0 C w h2 (by rw[p];omega) Y;simp only[Nat.add_zero] at oS;have y:(execOp a.eval ⟨none,.call {callee:= .builtin .clear,args:= #[x],argTypes:= #[t]},ty,pos,af,g⟩).run K.P w= .ok (.value (.tuple #[])) (w.setRow b (C.toList.take (c*size)++(Builtin.zeroCells z.cells (h+1)).toList++C.toList.drop (c*size+(Builtin.zeroCells z.cells (h+1)).toList.length)).toArray):=by
    simp[execOp,resolve,invoke,builtin,o,Builtin.clear_,run_underlying eO,he.su,oS]
   rw[y];refine I β _ _ (Nx bO E b e' rows _ C _ hH N h2 (by simp[p];omega) ?_ ?_ ?_)
   ·have:(rows.take c++List.replicate (h+1) (A.map ik)++rows.drop (c+(h+1))).length=rows.length:=bX
    rw[this];exact h3
   ·intro m l;rw[ef,ef] at l;rcases l with (l|l)|l
    ·exact h4 m (fU l)
    ·rw[(vq.1 l).2,dj];exact G
    exact h4 m (eV l)
   intro i j m hW lC aH a2 a3;have a3:(C.toList.take (c*size)++(Builtin.zeroCells z.cells (h+1)).toList++C.toList.drop (c*size+(Builtin.zeroCells z.cells (h+1)).toList.length))[i*size+j]? =some lC:=by simpa using a3
   rw[p] at a3;have B:(C.toList.take (c*size)).length=c*size:=bX
   by_cases c1:i<c
   ·rw[fs,iu bX,fL,aW c1] at aH;have F:j<size:=by rw[<-h4 m (bC aH)];exact(bM.1 a2).1
    have hlt:i*size+j<c*size:=l8 c1 F;rw[fs,iu O,fL,aW hlt] at a3;exact .inl ⟨i,m,aH,a2,by simpa using a3⟩
   by_cases c2:i<c+(h+1)
   ·rw[iu bX,hi bX] at aH;have l:m=A.map ik:=by
     have:=bC aH;exact(vq.1 this).2
    subst l;have F:j<size:=by rw[<-G,<-dj (f:=ik)];exact(bM.1 a2).1
    have e1:i*size+j=c*size+((i-c)*size+j):=by rw[Nat.sub_mul];have:=dt size (O:c<=i);omega
    have hlt:(i-c)*size+j<(h+1)*size:=l8 O F;rw[e1,iu (by rw[cP,B,p];omega),hi O,B,Nat.add_sub_cancel_left] at a3;exact .inr λw X=>U w X j _ _ (r _ _ _ O F a3) a2
   have W:(rows.take c++List.replicate (h+1) (A.map ik)).length=c+(h+1):=bX
   rw[hi O,W,fS,show c+(h+1)+(i-(c+(h+1)))=i by omega] at aH;have F:j<size:=by rw[<-h4 m (bC aH)];exact(bM.1 a2).1
   have iI:c*size+(h+1)*size<=i*size+j:=by
    have:=dt size (O:c+(h+1)<=i);rw[dC] at this;omega
   rw[hi (by rw[cP,B,p];omega),cP,B,p,fS,show c*size+(h+1)*size+(i*size+j-(c*size+(h+1)*size))=i*size+j by omega] at a3;exact .inl ⟨i,m,aH,a2,by simpa using a3⟩
  omega
theorem Xu(k h l c:Nat)(x y:Operand)(e:TypeId)(rows:List (List T))(cn: ∀i,d=some i->Nat.blt i K.nt=true)(hx:s.get x= .a7 k gen size 0 h)(hy:s.get y= .a7 k gen size l c)(hH:s.H k=some (.arr e gen size rows))
  (eO:K.P.underlying t=some (.slice e)) (he:b4 K.P e u z size bytes) (hp:0<size) (h1:h+c<=rows.length) (h2:l+c<=rows.length):
  dL K ⟨d,.call {callee:= .builtin .append,args:= #[x,y],argTypes:= #[t,t]},ty,pos,af,g⟩ s
   (({s with H:=aQ s.H k (some (.arr e gen size (rows.take h++(rows.drop l).take c++rows.drop (h+c))))}:S).put d (.a7 k gen size 0 (h+c))):=by
 intro β a w next Q bO hkk
 have I:=bO.get x;rw[hx] at I;have ln:=bO.get y;rw[hy] at ln;have hd:=(bO.heap k _ hH).2;have ig:=hd.1;obtain⟨q,M⟩:=iK hd;obtain⟨_,i,lY,hi2,ka,rV⟩:=id he;unfold Oper.wp;cases c with
 |zero=>
  obtain⟨fW,cap,N⟩: ∃fW cap,a.eval y= .slice fW 0 cap:=by
   rcases eT ln M with ⟨cap,b,n,gV,p,_⟩|⟨_,_,_,p⟩
   ·exact⟨_,cap,p⟩
   exact⟨none,0,p⟩
  have af6:rows.take h++(rows.drop l).take 0++rows.drop (h+0)=rows:=a1
  have G:(execOp a.eval ⟨d,.call {callee:= .builtin .append,args:= #[x,y],argTypes:= #[t,t]},ty,pos,af,g⟩).run K.P w= .ok (.value (a.eval x)) w:=by
   rcases eT I M with ⟨xc,b,n,gV,p,_,_,_,_,b9,_⟩|⟨_,_,_,p⟩
   ·cases fW<;>simp[execOp,resolve,invoke,builtin,p,N,Builtin.append_,run_underlying eO,sizeOf,typeInfo,lY,Builtin.lenOf,Builtin.firstCells,b9,storeCells,loadCells,loadCellsFrom]
   cases fW<;>simp[execOp,resolve,invoke,builtin,p,N,Builtin.append_,run_underlying eO,sizeOf,typeInfo,lY,Builtin.lenOf,Builtin.firstCells,loadCells,loadCellsFrom]
  rw[G];refine hkk β _ w ?_;have kD:aQ s.H k (some (E.arr e gen size rows))=s.H:=by
   funext j;by_cases D:j=k
   ·subst D;rw[bQ,hH]
   rw[bR _ _ _ _ D]
  rw[af6,kD];exact bO.put d cn I
 |succ c=>
  rcases eT ln M with ⟨aeo,b,n,gV,N,jc,hw,hs,cu,oP,hm⟩|⟨_,_,h0,_⟩
  ·subst jc;rcases eT I M with ⟨A,fH,I',ahM,p,j',xE,U,r0,ain,BI⟩|⟨h0,_⟩
   ·cases j';rcases hd.2 with ⟨g1,_⟩|⟨cd,B,g1,g2,g3,g4,g5⟩
    ·rw[M] at g1;cases g1
    rw[M] at g1;cases g1;have QD:B.size=I':=by
     unfold World.shape? at U;rw[g2] at U;simp at U;exact U.2
    obtain⟨C,QF⟩: ∃C,C=(B.toList.drop (l*size)).take ((c+1)*size):=⟨_,rfl⟩
    have hle:(l+(c+1))*size<=B.size:=fF (dt _ h2) g3;rw[dC] at hle;have F:C.length=(c+1)*size:=by rw[QF];simp;omega
    have L: ∀j v,C[j]? =some v->B[l*size+j]? =some v/\j<(c+1)*size:=λj v bI=>by
     have D:=(bM.1 bI).1;rw[F] at D;rw[QF,fL,aW D,fS] at bI;exact⟨by simpa using bI,D⟩
    have V: ∀r,r<rows.length-> ∃m,rows[r]? =some m/\m.length=size:=λr xw=>⟨_,bg xw,g4 _ (ft xw)⟩
    have hcell: ∀j v,C[j]? =some v->w.cell? ((⟨b,l*size,none⟩:Addr).add j)=some v:=λj v bI=>by
     rw[iE];simp only[World.cell?,g2];exact(L j v bI).1
    have kF: ∀v,v∈C->v.oneCell'=true:=λv bI=>by
     obtain⟨j,D⟩:=iQ.1 bI;obtain⟨h3,h4⟩:=L j v D;have Qq:j%size<size:=Nat.mod_lt _ hp;have hdiv:j / size<c+1:=(vo hp).2 h4;obtain⟨m,Iz,xz⟩:=V (l+j / size) O;have afd:(l+j / size)*size+j%size=l*size+j:=by rw[dC,pf,Nat.div_add_mod']
     exact(g5 (l+j / size) (j%size) m m[j%size] v Iz (bg O) (by rw[afd];exact h3)).im
    have mR:h*size+C.length<=B.size:=by
     rw[F,<-dC];exact fF (dt _ h1) g3
    have R:h+(c+1)<=A:=by
     have:(h+(c+1))*size<=A*size:=by
      rw[dn] at r0;rw[r0,<-QD];exact fF (dt _ h1) g3
     exact Nat.le_of_mul_le_mul_right this hp
    have W:=run_append_room (P:=K.P) w t ty e i eO lY b h A B g2 ⟨b,l*size,none⟩ (c+1) aeo C (by rw[ka];exact F) hcell kF R (by rw[ka];exact mR);rw[ka] at W;have G:(execOp a.eval ⟨d,.call {callee:= .builtin .append,args:= #[x,y],argTypes:= #[t,t]},ty,pos,af,g⟩).run K.P w= .ok (.value (.slice (some ⟨b,0,none⟩) (h+(c+1)) A)) (w.setRow b (B.toList.take (h*size)++C++B.toList.drop (h*size+C.length)).toArray):=by
     rw[fT] at p;simp[execOp,resolve,invoke,builtin,p,N,W]
    rw[G];have Y:(B.toList.take (h*size)).length=h*size:=bX
    have ux:(B.toList.take (h*size)++C++B.toList.drop (h*size+C.length)).toArray.size=B.size:=bX
    have X:(rows.take h).length=h:=by rw[cq];omega
    have f:((rows.drop l).take (c+1)).length=c+1:=by rw[cq,eX];omega
    have hrel:=Nx bO k b e rows (rows.take h++(rows.drop l).take (c+1)++rows.drop (h+(c+1))) B _ hH M g2 ux ?_ ?_ ?_
    ·refine hkk β _ _ (hrel.put d cn ?_);have hN:bh β (w.setRow b (B.toList.take (h*size)++C++B.toList.drop (h*size+C.length)).toArray) (own K β (aQ s.H k (some (.arr e gen size (rows.take h++(rows.drop l).take (c+1)++rows.drop (h+(c+1))))))) (.a7 k gen size 0 (h+(c+1))) (.slice (some ⟨b,0*size,none⟩) (h+(c+1)) A):=by
      refine .a7 k gen size 0 _ A b I' e ig M (by simpa using xE) ?_ r0 R BI;unfold World.shape?;rw[setRow_heap _ _ _ _ _ _ g2];simp only[ux,QD]
     rw[fT] at hN;exact hN
    ·rw[cP,cP,X,f,eX]
     have:h+(c+1)+(rows.length-(h+(c+1)))=rows.length:=O
     rw[this];exact g3
    ·intro m o;rw[ef,ef] at o;rcases o with (o|o)|o
     ·exact g4 m (fU o)
     ·exact g4 m (eV (fU o))
     exact g4 m (eV o)
    intro r j m hW lC aH a2 a3;have a3:(B.toList.take (h*size)++C++B.toList.drop (h*size+C.length))[r*size+j]? =some lC:=by simpa using a3
    refine .inl ?_;by_cases c1:r<h
    ·rw[fs,iu O,fL,aW c1] at aH;have D:j<size:=by rw[<-g4 m (bC aH)];exact(bM.1 a2).1
     have hlt:r*size+j<h*size:=l8 c1 D;rw[fs,iu O,fL,aW hlt] at a3;exact⟨r,m,aH,a2,by simpa using a3⟩
    by_cases c2:r<h+(c+1)
    ·rw[iu (by rw[cP];omega),hi O,X,fL,aW O,fS] at aH;have D:j<size:=by rw[<-g4 m (bC aH)];exact(bM.1 a2).1
     have e1:r*size+j=h*size+((r-h)*size+j):=by rw[Nat.sub_mul];have:=dt size (O:h<=r);omega
     have hlt:(r-h)*size+j<(c+1)*size:=l8 O D;rw[e1,iu (by rw[cP,Y,F];omega),hi O,Y,Nat.add_sub_cancel_left] at a3;have h9:=(L _ _ a3).1;exact⟨l+(r-h),m,aH,a2,by rw[dC,pf];exact h9⟩
    have afF:(rows.take h++(rows.drop l).take (c+1)).length=h+(c+1):=by rw[cP,X,f]
    rw[hi O,afF,fS,show h+(c+1)+(r-(h+(c+1)))=r by omega] at aH;have D:j<size:=by rw[<-g4 m (bC aH)];exact(bM.1 a2).1
    have iI:h*size+(c+1)*size<=r*size+j:=by
     have:=dt size (O:h+(c+1)<=r);rw[dC] at this;omega
    rw[hi (by rw[cP,Y,F];omega),cP,Y,F,fS,show h*size+(c+1)*size+(r*size+j-(h*size+(c+1)*size))=r*size+j by omega] at a3;exact⟨r,m,aH,a2,by simpa using a3⟩
   rw[M] at *; cases h0
  omega
theorem Vv(k R:Nat)(x y:Operand)(e f:TypeId)(p:List (List T))(j: ∀i,d=some i->Nat.blt i K.nt=true)(v:s.get x= .a7 k gen size 0 R)(E:dq (s.get y) (.t (.ay [])))(I:s.H k=some (.arr f gen size p))
  (W:K.P.underlying t=some (.slice e)) (M:b4 K.P e u z size bytes) (N:0<size):
  dL K ⟨d,.call {callee:= .builtin .append,args:= #[x,y],argTypes:= #[t,t]},ty,pos,af,g⟩ s (s.put d (.a7 k gen size 0 R)):=by
 intro U a w next Q D F
 have h:=D.get x;rw[v] at h;have G:=E _ _ _ _ (D.get y);have L:=(D.heap k _ I).2;obtain⟨q,V⟩:=iK L;obtain⟨_,i,r,Y,ka,rV⟩:=id M;unfold Oper.wp;obtain⟨m,cap,A⟩: ∃m cap,a.eval y= .slice m 0 cap:=by
  rcases Fc G (Rows.nil size) N with (⟨B,_⟩|⟨b,o,c,_,B,_⟩)|⟨_,m,cap,B⟩
  ·exact⟨none,0,B⟩
  ·exact⟨_,c,B⟩
  exact⟨m,cap,B⟩
 have C:(execOp a.eval ⟨d,.call {callee:= .builtin .append,args:= #[x,y],argTypes:= #[t,t]},ty,pos,af,g⟩).run K.P w= .ok (.value (a.eval x)) w:=by
  rcases eT h V with ⟨X,b,n,gV,l,_,_,_,_,b9,_⟩|⟨_,_,_,l⟩
  ·cases m<;>simp[execOp,resolve,invoke,builtin,l,A,Builtin.append_,run_underlying W,sizeOf,typeInfo,r,Builtin.lenOf,Builtin.firstCells,b9,storeCells,loadCells,loadCellsFrom]
  cases m<;>simp[execOp,resolve,invoke,builtin,l,A,Builtin.append_,run_underlying W,sizeOf,typeInfo,r,Builtin.lenOf,Builtin.firstCells,loadCells,loadCellsFrom]
 rw[C];exact F U _ w (D.put d j h)
theorem Y0{size off:Nat}{a c:List (List T)}{us cs:List Value}(r:off+m<=a.length)(A:a.length*size<=us.length)(o:cs.length=m*size)(B:m<=c.length)(p: ∀b,b∈a->b.length=size)(e: ∀b,b∈c->b.length=size){R:T->Value->Prop}
  (q: ∀(i j:Nat) (b:List T) (x:T) (u:Value),a[i]? =some b->b[j]? =some x->us[i*size+j]? =some u->R x u)
  (w: ∀(i j:Nat) (b:List T) (x:T) (u:Value),c[i]? =some b->b[j]? =some x->cs[i*size+j]? =some u->R x u):
  ∀(i j:Nat) (b:List T) (x:T) (u:Value),(a.take off++c.take m++a.drop (off+m))[i]? =some b->b[j]? =some x->(us.take (off*size)++cs++us.drop (off*size+cs.length))[i*size+j]? =some u->R x u:=by
 have C:off*size+m*size<=a.length*size:=by rw[<-dC];exact dt _ r
 have y:=vJ (us.take (off*size)) cs [] (rows:=a.take off) (news:=c.take m) (n:=off) (size:=size) (by rw[cq];omega) (by rw[cq];omega) (by rw[cq,o];congr 1;omega)
  (λb h=>p b (fU h)) (λb h=>e b (fU h)) (R:=R)
  (λk j b x u aH a2 a3=>by
   rw[fL] at aH a3;split at aH
   ·split at a3
    ·exact q k j b x u aH a2 a3
    cases a3
   cases aH)
  (λk j b x u aH a2 a3=>by
   rw[fL] at aH;split at aH
   ·exact w k j b x u aH a2 a3
   cases aH)
 have l:(us.drop (off*size+cs.length)).length=us.length-(off+m)*size:=by rw[eX,o,dC]
 have di:=vJ (us.take (off*size)++cs) ((us.drop (off*size+cs.length)).take ((a.length-(off+m))*size)) ((us.drop (off*size+cs.length)).drop ((a.length-(off+m))*size)) (rows:=a.take off++c.take m) (news:=a.drop (off+m)) (n:=off+m) (size:=size)
  (by rw[cP,cq,cq];omega) (by rw[cP,cq,o,dC];omega)
  (by
   rw[cq,l,eX]
   have:(a.length-(off+m))*size=a.length*size-(off+m)*size:=Nat.sub_mul _ _ _;omega)
  (λb h=>by
   rcases ef.1 h with h|h
   ·exact p b (fU h)
   exact e b (fU h)) (λb h=>p b (eV h)) (R:=R) (λk j b x u aH a2 a3=>y k j b x u aH a2 (by simpa using a3))
  (λk j b x u aH a2 a3=>by
   rw[fS] at aH;rw[fL] at a3;split at a3
   ·rw[fS,o] at a3;refine q (off+m+k) j b x u aH a2 ?_;rw[dC,dC,pf];exact a3
   cases a3)
 intro i j b x u aH a2 a3;refine di i j b x u aH a2 ?_;rw[fs _ (List.take _ _),qN];exact a3
theorem acZ(x y:Operand)(E c len:Nat)(e e' lB:TypeId)(rows k:List (List T))(cn: ∀i,d=some i->Nat.blt i K.nt=true)(hx:s.get x= .a7 E gen size c len)(hy:dq (s.get y) (.t (.ay k)))(hH:s.H E=some (.arr e' gen size rows))(eO:K.P.underlying t=some (.slice e))
  (he:b4 K.P e u z size bytes) (hp:0<size) (I: ∀r,r∈k->r.length=size) (b9:c+len<=rows.length):
  dL K ⟨d,.call {callee:= .builtin .copy,args:= #[x,y],argTypes:= #[t,lB]},ty,pos,af,g⟩ s
   (({s with H:=aQ s.H E (some (.arr e' gen size (rows.take c++k.take (Nat.min k.length len)++rows.drop (c+Nat.min k.length len))))}:S).put d (.t (.int .i64 (Nat.min k.length len:Nat)))):=by
 intro β a w next Q bO hk
 have M:=bO.get x;rw[hx] at M;have ln:=hy _ _ _ _ (bO.get y);have N:=(bO.heap E _ hH).2;obtain⟨q,U⟩:=iK N;obtain⟨_,i,lY,hi2,ka,rV⟩:=he;unfold Oper.wp;have agm: ∃C c1,a.eval x= .slice C len c1:=by
  rcases eT M U with ⟨D,b,n,gV,B,_⟩|⟨_,_,h0,B⟩
  ·exact⟨_,D,B⟩
  subst h0;exact⟨none,0,B⟩
 have W:=Fc ln I hp;have ago: ∃Js c2,a.eval y= .slice Js k.length c2:=by
  rcases W with (⟨A,X⟩|⟨b,c,D,G,A,_⟩)|⟨X,fW,D,A⟩
  ·subst X;exact⟨none,0,A⟩
  ·exact⟨_,_,A⟩
  subst X;exact⟨fW,D,A⟩
 obtain⟨m,hm⟩: ∃m,m=Nat.min k.length len:=⟨_,rfl⟩
 rw[<-hm] at hk;by_cases V:m=0
 ·subst V;obtain⟨C,c1,B⟩:=agm;obtain⟨Js,c2,A⟩:=ago;have F:(execOp a.eval ⟨d,.call {callee:= .builtin .copy,args:= #[x,y],argTypes:= #[t,lB]},ty,pos,af,g⟩).run K.P w= .ok (.value (goInt ((0:Nat):Int))) w:=by
   cases C<;>cases Js<;>simp[execOp,resolve,invoke,builtin,B,A,Builtin.copy_,run_underlying eO,sizeOf,typeInfo,lY,Builtin.lenOf,Builtin.firstCells,<-hm,loadCells,loadCellsFrom,storeCells]
  rw[F]
  have:rows.take c++k.take 0++rows.drop (c+0)=rows:=a1
  rw[this] at hk;exact hk β _ _ ((bO.ym E _ hH).put d cn (.t _ _ (.int _ _)))
 have aiq:m<=len:=by rw[hm];exact Nat.min_le_right _ _
 have o:m<=k.length:=by rw[hm];exact Nat.min_le_left _ _
 rcases W with (⟨_,X⟩|⟨cd,ahs,Bs,f,A,nL,xF,kI,hwr⟩)|⟨X,_⟩
 ·subst X;simp at o;exact bt o V
 ·rcases eT M U with ⟨D,b,n,gV,B,jc,hw,hs,X,oP,lZ⟩|⟨_,_,h0,_⟩
  ·subst jc;rcases N.2 with ⟨h1,_⟩|⟨Y,G,h1,h2,h3,h4,h5⟩
   ·rw[U] at h1;cases h1
   rw[U] at h1;cases h1;have L:(f.take (m*size)).length=m*size:=by rw[cq,nL];have:=dt size o;omega
   have mR:c*size+m*size<=G.size:=by
    have:(c+m)*size<=rows.length*size:=dt _ O;rw[dC] at this;omega
   have Qn:=run_loadCells_list (P:=K.P) w ⟨cd,ahs,none⟩ (f.take (m*size)) (λj y hj=>by
    rw[iE];rw[fL] at hj;split at hj
    ·exact xF j y hj
    cases hj)
   have oS:=run_storeCells_at K.P b (c*size) e' (f.take (m*size)) 0 G w h2 (by rw[L];omega) λv bI=>kI v (fU bI);simp only[Nat.add_zero] at oS;rw[L] at Qn;have F:(execOp a.eval ⟨d,.call {callee:= .builtin .copy,args:= #[x,y],argTypes:= #[t,lB]},ty,pos,af,g⟩).run K.P w= .ok (.value (goInt (m:Int))) (w.setRow b (G.toList.take (c*size)++f.take (m*size)++G.toList.drop (c*size+(f.take (m*size)).length)).toArray):=by
    simp[execOp,resolve,invoke,builtin,B,A,Builtin.copy_,run_underlying eO,sizeOf,typeInfo,lY,ka,Builtin.lenOf,Builtin.firstCells,<-hm,Qn,oS]
   rw[F];have kH:(G.toList.take (c*size)++f.take (m*size)++G.toList.drop (c*size+(f.take (m*size)).length)).toArray.size=G.size:=by
    have h2: ∀l:List Value,l.toArray.size=l.length:=λl=>a1
    rw[h2];simp only[List.length_append,L,List.length_take,List.length_drop,Array.length_toList];omega
   have hlen:(rows.take c++k.take m++rows.drop (c+m)).length=rows.length:=bX
   have hb':own K β s.H b:= .inr ⟨E,by rw[hH];simp,.inl ⟨_,U⟩⟩;refine hk β _ _ (Rel.put (Rel.setRow bO E b (.inl ⟨_,U⟩) G e' h2 _ kH (.arr e' gen size (rows.take c++k.take m++rows.drop (c+m))) (by rw[hH];simp)
    ⟨N.1,Or.inr ⟨b,_,U,setRow_heap _ _ _ _ _ _ h2,by rw[kH,hlen];exact h3,λr p=>?_,λi j r x u aH a2 a3=>?_⟩⟩) d cn (.t _ _ (.int _ _)))
   ·rw[ef,ef] at p;rcases p with (p|p)|p
    ·exact h4 r (fU p)
    ·exact I r (fU p)
    exact h4 r (eV p)
   have h9:=Y0 (off:=c) (m:=m) (us:=G.toList) (cs:=f.take (m*size)) O (by simpa using h3) L o h4 I (R:=λx u=>cL w (own K β s.H) x u) (λi j r x u cS cd Y=>h5 i j r x u cS cd (by simpa using Y))
    (λi j r x u cS cd Y=>by
     rw[fL] at Y;split at Y
     ·exact hwr i j r x u cS cd Y
     cases Y) i j r x u aH a2 (by simpa using a3)
   refine h9.mono ⟨rfl,rfl,rfl,a1,λkk _ hx=>setRow_other _ _ _ _ λe0=>hx ?_⟩ λ_ _ h=>h;subst e0;exact hb'
  omega
 subst X;simp at o;exact bt o V
end steps
end
variable {P:Program}{r:List Nat}{o:Oper}{v a:V}{b i l M W F Q:List ch}{c m lK:List df}{k gen n size:Nat}{e:cM}{e':E}{t:TypeId}{x y:Operand}{u:Nat->Bool}{z:Value}
theorem b5.sub{H r:Nat->Option E}{Y:List V}(h:b5 P H o Y v)(a: ∀k e,H k=some e->r k=some e):b5 P r o Y v:=
 λβ w X b c i=>h β w X b (λid e l=>c id e (a id e l)) i
theorem dL.JL{K:Ctx}{s b c:S}(h:dL K o s b)(m: ∀β a w,Rel K β b a w->Rel K β c a w):dL K o s c:=
 λβ a w next Q n p=>h β a w next Q n λe k l i=>p e k l (m e k l i)
theorem acj{K:Ctx}{β:Map}{H:Nat->Option E}{e:E}(l:H k=some e):own K β (aQ H k (some e'))=own K β H:=by
 funext b;apply propext;constructor
 ·rintro(h|⟨id,i,a⟩)
  ·exact .inl h
  by_cases c:id=k
  ·subst c;exact .inr ⟨id,by rw[l];simp,a⟩
  rw[bR _ _ _ _ c] at i;exact .inr ⟨id,i,a⟩
 rintro(h|⟨id,i,a⟩)
 ·exact .inl h
 by_cases c:id=k
 ·subst c;exact .inr ⟨id,by rw[bQ];simp,a⟩
 exact .inr ⟨id,by rw[bR _ _ _ _ c];exact i,a⟩
theorem Rel.Jp{K:Ctx}{β:Map}{s:S}{a:Act}{w:World}(h:Rel K β s a w)(k:Nat){e:E}(l:s.H k=some e)(o: ∀X,cy β w X k e->cy β w X k e'):Rel K β {s with H:=aQ s.H k (some e')} a w:=by
 have dY:=acj (K:=K) (β:=β) (e':=e') l;refine {h with heap:= ?_,cU:= ?_}
 ·intro id c m;show _/\cy β w (own K β (aQ s.H k (some e'))) id c;rw[dY];by_cases n:id=k
  ·subst n;have b:aQ s.H id (some e') id=some c:=m;rw[bQ] at b;cases b;obtain⟨p,q⟩:=h.heap id e l
   grind
  have b:aQ s.H k (some e') id=some c:=m;rw[bR _ _ _ _ n] at b;exact h.heap id c b
 intro i;show bh β w (own K β (aQ s.H k (some e'))) _ _;rw[dY];exact h.cU i
section
variable {K:Ctx}{s:S}{d:Option Tmp}{ty:TypeId}{pos:String}{af:Array Edge}{g:Option (Nat×Bool)}
theorem Oq{f:FuncId}{c:Operand}{b:Array Operand}{k:Array TypeId}(l:List V)(args:List V)(r:V)
  (D:d7 K.P f) (F:s.get c= .fn f l) (L: ∀i,d=some i->Nat.blt i K.nt=true) (R:e8 (b.toList.map s.get++l) args) (W:gg gf args=true) (h:En K.P K.G f args r):
  dL K ⟨d,.call {callee:= .value c,args:=b,argTypes:=k},ty,pos,af,g⟩ s (s.put d r):=by
 obtain⟨B,j,t,v⟩:=D;intro β a w next Q n I
 have x:B.name≠ "runtime.NumGoroutine" :=by simpa using t
 have y:B.body≠none:=by intro e;simp[e] at v
 obtain⟨us,z,A⟩:=(F▸n.get c).HV;have o:(execOp a.eval ⟨d,.call {callee:= .value c,args:=b,argTypes:=k},ty,pos,af,g⟩).run K.P w= .ok (.enter f (b.map a.eval++us)) w:=by
  simp[execOp,resolve,Deferred.ofValue,z,invoke,callFunc,j,x,y]
 unfold Oper.wp;rw[o,Oper.upon_enter];have m:=(dh.le ((n.nJ b.toList).app A) R).Jd W;have p:=h w (own K β s.H) _ n.BA n.Jf m;have M:(List.map a.eval b.toList++us.toList).toArray=b.map a.eval++us:=by rw[<-vr,<-Array.toList_append]
 rw[M] at p;refine p.mono ?_;rintro e N ⟨u,rfl,q,T⟩;exact I β _ N ((n.grow q).put d L (T.any λ_ h=>h))
theorem qS{s:S}{d:Option Tmp}{e:E}:cM.app ⟨m6 d v,[(k,some e)],[(k,true)]⟩ s=(s.new k e).put d v:=by cases d<;>rfl
theorem n0{s:S}{d:Option Tmp}:cM.app ⟨m6 d v,[],[]⟩ s=s.put d v:=by cases d<;>rfl
theorem aaA(a: ∀k,u k=false->s.u k=false)(l:jA K.nt d=true)(m:s.get x=v)
  (h:tO d u v i=some (e,c,b)):dL K ⟨d,.box t x,ty,pos,af,g⟩ s (e.app s):=by
 unfold tO at h;split at h
 ·split at h
  ·rename_i n o;cases h;rw[qS];exact adz _ (a _ n) x v (gC l) m o
  cases h
 cases h
theorem abu{H:Nat->Option E}(x:Operand)(v:V)(e:List T)(m:v.val=true)(i:v.cs=e.map .t):AX P H ⟨d,.box t x,ty,pos,af,g⟩ [v] (.aK e):=by
 intro β w X a _ n o;obtain⟨k,p⟩:=(show bh β w X v (a x) from o.1).cells m;have b:(execOp a ⟨d,.box t x,ty,pos,af,g⟩).run P w= .ok (.value (.pointer (some ⟨w.heap.size,0,none⟩))) (w.alloc (.cells (a x).cells t)):=by
  simp[execOp,Instr.box,newVar,newRow]
 refine⟨_,_,b,Ext.alloc _ _ _,?_⟩;refine .aK e w.heap.size 0 (λj=>(a x).cells.getD j undef) a1 (λh=>by have:=n _ h;omega) (λj c=>?_) λj y l=>?_
 ·rw[dn,World.cell?_alloc_new]
  have:j<(a x).cells.size:=by rw[k,i];simpa using c
  simp[this]
 have c:j<(a x).cells.size:=by rw[k,i,dj];exact(bM.1 l).1
 have q:=p j (.t y) (a x).cells[j] (by rw[i,er,l];rfl) (by simp[c]);cases q with
 |t _ _ h=>
  have:(a x).cells.getD j undef=(a x).cells[j]:=by simp[c]
  rw[this];exact h.mono (Ext.alloc X _ _) λ_ _ h=>h
theorem Zy(a:jA K.nt d=true)(k:s.get x=v)
  (h:GN d v i=some (e,c,b)):dL K ⟨d,.box t x,ty,pos,af,g⟩ s (e.app s):=by
 unfold GN at h;split at h
 ·split at h
  ·rename_i l m n;cases h;rw[n0];exact JK (vals:=[mY v]) (gC a) ⟨k▸tm _,trivial⟩ (abu x _ l m (nV n))
  cases h
 cases h
theorem Xj{a:List (Nat×b6)}(m:dM K.P a){i:b6}(n:dm a t=some i)(o: ∀k,u k=false->s.u k=false)(p:jA K.nt d=true)
  (h:tO d u (gB i.z) l=some (e,c,b)):dL K ⟨d,.alloc t,ty,pos,af,g⟩ s (e.app s):=by
 unfold tO at h;split at h
 ·split at h
  ·rename_i q r;cases h;rw[qS];obtain⟨y,x,_⟩:=m _ _ n;exact abS _ (o _ q) (gC p) x r
  cases h
 cases h
theorem Xc{c:List (Nat×b6)}(W:dM K.P c){C:dE}(f:C.b'=c){H:Nat->Option E}(F: ∀k e,H k=some e->s.H k=some e)
  (G:s.get x=a) (L:s.get y=v) (h:Gq C t H a v l=some (e,m,b)) (o:cc m):dL K ⟨none,.store t x y,ty,pos,af,g⟩ s (e.app s):=by
 subst f;unfold Gq at h;split at h
 ·cases h
 rename_i i j;obtain⟨U,Q,_⟩:=W _ _ j;split at h
 ·split at h
  ·rename_i cs p;split at h
   ·rename_i q z A u;cases h;exact abQ _ _ _ _ cs v G L (F _ _ p) Q q z A u
   cases h
  cases h
 ·split at h
  ·rename_i I R M n N r B l p D;split at h
   ·rename_i q z A;cases h;obtain⟨rfl,rfl,T,rfl,_⟩:=o;exact Xt x y _ _ _ I n r N G (v:=mY v) (by rw[L];exact tm v) (nV D) q (F _ _ p) Q T (cH z) (eB A)
   cases h
  cases h
 cases h
theorem Al{k i n:Nat}: ∀{l:List (Nat×Nat×V)},cc (tA k i n l)-> ∀c b e,(c,b,e)∈l->i<=b->b<i+n->c=k
 |h::l,a,c,b,e,hm,m,o=>by
  simp only[tA] at a;rcases dI.1 hm with rfl|hm
  ·have q:Nat.ble i b=true:=Nat.ble_eq_true_of_le m;have r:Nat.blt b (i+n)=true:=by simpa[Nat.blt_eq] using o
   simp only[q,r,Bool.and_self,cond_true] at a;exact a.1
  cases p:(Nat.ble i h.2.1&&Nat.blt h.2.1 (i+n)) with
  |true=>rw[p] at a;exact Al a.2 c b e hm m o
  |false=>rw[p] at a;exact Al a c b e hm m o
theorem Am{k off n:Nat}: ∀{i:List (Nat×Nat×V)},cc (tB k off n i)-> ∀c b e,(c,b,e)∈i->off<=b->b<off+n->c≠k
 | [],_,_,_,_,hm,_,_=>by cases hm
 |h::i,a,c,b,e,hm,l,m=>by
  unfold tB at a;rcases dI.1 hm with rfl|hm
  ·have p:Nat.ble off b=true:=Nat.ble_eq_true_of_le l;have q:Nat.blt b (off+n)=true:=by simpa[Nat.blt_eq] using m
   simp only[p,q,Bool.and_self,cond_true] at a;exact a.1
  cases o:(Nat.ble off h.2.1&&Nat.blt h.2.1 (off+n)) with
  |true=>rw[o] at a;exact Am a.2 c b e hm l m
  |false=>rw[o] at a;exact Am a c b e hm l m
theorem Wq{C:dE}(j9:dM K.P C.b'){H:Nat->Option E}{N:List ch}(hH: ∀k e,H k=some e->s.H k=some e)
  (A:s.get x=a) (hy:s.get y=v) (h:FQ C t H a v M=some (e,lK,N)) (B:cc lK):dL K ⟨none,.store t x y,ty,pos,af,g⟩ s (e.app s):=by
 unfold FQ at h;split at h
 ·rename_i i id gen sz k D r M T;obtain⟨aje,U,_⟩:=j9 _ _ T;split at h
  ·rename_i Y m F o dY hh;split at h
   ·rename_i l c hM;cases h;simp only[Bool.and_eq_true] at c;obtain⟨rfl,eG,bO,hq⟩:=B;obtain⟨lz,G⟩:=cc.app hq;obtain⟨cS,cd⟩:=yU hM lz;refine Vm x y _ _ _ Y m o r v dY A hy c.1 c.2.1 (hH _ _ hh) eG U (cH c.2.2.1) (by simpa[Nat.blt_eq] using c.2.2.2.2) bO (eB c.2.2.2.1) (Al G) λj hj=>?_;have hj':=bg (show j<(l.map (·.2)).length by simp[cS];exact hj)
    grind
   cases h
  cases h
 ·rename_i i id gen sz k D q n r M T;obtain⟨aje,U,_⟩:=j9 _ _ T;split at h
  ·rename_i Y m F o dY hh;split at h
   ·rename_i l c hM;cases h;simp only[Bool.and_eq_true] at c;obtain⟨rfl,eG,bO,hq⟩:=B;obtain⟨lz,G⟩:=cc.app hq;obtain⟨G,qu⟩:=cc.app G;obtain⟨qu,QZ⟩:=cc.app qu;obtain⟨cS,cd⟩:=yU hM lz;have L:=cH c.2.2.1;have Q: ∀x,x∈(dY.drop q.toNat).take n->x∈dY:=λx A=>eV (fU A);have z: ∀x,x∈dY->x∈dY.take q.toNat\/x∈(dY.drop q.toNat).take n\/x∈(dY.drop q.toNat).drop n:=λx A=>by
     rw[<-qN q.toNat dY,ef] at A;rcases A with h|h
     ·exact .inl h
     rw[<-qN n (dY.drop q.toNat),ef] at h
     grind
    refine TX x y _ _ _ Y m o r v dY A hy c.1 c.2.1 (hH _ _ hh) eG U L (by simpa[Nat.blt_eq] using c.2.2.2.2) bO (eB c.2.2.2.1) (λf u I hm=>?_) (λf u R hm=>?_) λj hj=>?_
    ·rcases ef.1 hm with b|b
     ·exact⟨I,fU b,λp=>bt p.1 (Am qu f u I b p.2.1 p.2.2),λ_=>rfl⟩
     rcases ef.1 b with b|b
     ·obtain⟨R,aH,a2,a3⟩:=zg b;refine⟨R,Q _ aH,λp=>?_,λp=>a3 λW=>p ⟨Al G f u R aH W.1 O,W.1,O⟩⟩
      grind
     exact⟨I,eV (eV b),λp=>bt p.1 (Am QZ f u I b p.2.1 p.2.2),λ_=>rfl⟩
    ·rcases z _ hm with b|b|b
     ·exact⟨R,ef.2 (.inl b)⟩
     ·obtain⟨v1,h2⟩:=zR (off:=D) (vs:=v.cs) b
      grind
     exact⟨R,ef.2 (.inr (ef.2 (.inr b)))⟩
    have hj':=bg (show j<(l.map (·.2)).length by simp[cS];exact hj)
    grind
   cases h
  cases h
 cases h
theorem dL.ahS{K:Ctx}{s b c:S}(h:dL K o s b)(p:b.le K c):dL K o s c:=
 λβ a w next Q q r=>h β a w next Q q λi m n k=>let ⟨e,l⟩:=p i m n k;r e m n l
theorem L6{z:List T}: ∀{l:List (Nat×Nat)} {j m:Nat},wI z l=true->tw l j=some m->z[j]? =some .e5
 |p::l,j,m,h,a=>by
  simp only[wI,Bool.and_eq_true] at h;simp only[tw] at a;cases b:Nat.beq p.1 j with
  |true=>
   rw[<-cH b];have c:=h.1;split at c
   ·assumption
   cases c
  |false=>rw[b] at a;exact L6 h.2 a
theorem XF{K:Ctx}{s:S}(k:Nat){W:TypeId}{e:Nat}{z:List T}(l:List dG)(m:Nat)(D:s.H k=some (.arr W gen e (List.replicate n z)))(A:(U l m).ty=W)(F:(U l m).size=e)
  (I:wI z (U l m).bj=true):s.le K {s with H:=aQ s.H k (some (.a6 l m gen (List.replicate n (z.map ik)) []))}:=by
 intro β a w h;refine⟨_,h.drop k (.a6 l m gen (List.replicate n (z.map ik)) []) (by rw[D];simp) ?_⟩;have o:=(h.heap k _ D).2;subst A;subst F;refine⟨o.1,?_⟩;have p: ∀b,own K (β.drop k) (aQ s.H k (some (.a6 l m gen (List.replicate n (z.map ik)) []))) b->own K β s.H b:=by
  rintro b (M|⟨id,A,F⟩)
  ·exact .inl M
  refine .inr ⟨id,λG=>?_,nZ F⟩;by_cases f:id=k
  ·subst f;rw[D] at G;cases G
  rw[bR _ _ _ _ f] at A;exact A G
 rcases o.2 with ⟨aH,a2⟩|⟨b,N,aH,a2,a3,a4,a5⟩
 ·have:n=0:=by simpa using a2
  subst this;exact .inl ⟨aH,rfl,λc q=>q.1 rfl⟩
 refine .inr ⟨b,N,λ_ _ _=>False,aH,a2,by simpa using a3,λL P=>?_,λi j L x u B t V=>Cell.of ?_,λ_ _ _ h=>h.elim,λ_ _ _ _ _ h=>h.elim,λc=>⟨λq=>bt rfl q.1,λ⟨_,_,q⟩=>q.elim⟩⟩
 ·obtain⟨Y,rfl⟩:=vq.1 P
  grind
 rw[sL] at B;split at B
 ·rename_i Q;cases B;rw[er] at t;obtain⟨y,v,rfl⟩:=Option.map_eq_some_iff.1 t;have r:=(a5 i j z y u (by rw[sL,aW Q]) v V).mono (Ext.refl _ _) λb _=>p b;cases R:(U l m).ej j with
  |none=>exact .iG _ _ _ r.x1 (λ_ h=>h)
  |some m2=>
   have:=L6 I R;rw[v] at this;cases this;cases r;exact .nil _ _ λ_ h=>h
 cases B
theorem Yh{C:dE}(j9:dM K.P C.b'){w:V}{N:List ch}(L: ∀k,u k=false->s.u k=false)(cn:jA K.nt d=true)
  (hx:s.get x=v) (hy:s.get y=w) (h:GG C d t u v w M=some (e,lK,N)) (Q:cc lK):dL K ⟨d,.makeSlice t x y,ty,pos,af,g⟩ s (e.app s):=by
 unfold GG at h;split at h
 ·cases h
 rename_i i l;split at h
 ·rename_i o T;have eO:K.P.underlying t=some (.slice o):=(j9 _ _ l).hU.2.2.2 o T;split at h
  ·cases h
  rename_i j W;obtain⟨qn,he,_⟩:=j9 _ _ W;split at h
  ·rename_i n m k R M p r;split at h
   ·rename_i U f Y z;cases h;obtain⟨hnm,A,B,_⟩:=Q;obtain⟨l0,afM,rfl⟩:=jG A;have D:m=n:=O
    subst D;simp only[Bool.and_eq_true] at z;have c:=eB z.2;have I:m.toNat*j.bytes<=1000000000*200000:=nh O c;have bB:=k8 B;have W:=OC (K:=K) (s:=s) (d:=d) (ty:=ty) (pos:=pos) (af:=af) (g:=g) k (L _ U) x y o m.toNat p (gC cn) eO he (by rw[hx,<-bB]) (by rw[hy,<-bB]) (nV r) f Y z.1 O O;refine W.JL λβ a w bO=>?_;have hk:((s.new k (.arr o 1 j.size (List.replicate m.toNat p))).put d (.a7 k 1 j.size 0 m.toNat)).H k=some (.arr o 1 j.size (List.replicate m.toNat p)):=by
     cases d<;>exact bQ _ _ _
    have xz:=bO.Jp k hk λX=>abr;rw[qS,Dm]
    have: ∀F G:E,({((s.new k F).put d (.a7 k 1 j.size 0 m.toNat)) with H:=aQ ((s.new k F).put d (.a7 k 1 j.size 0 m.toNat)).H k (some G)}:S)=(s.new k G).put d (.a7 k 1 j.size 0 m.toNat):=by
     intro F G;have L: ∀a b:Option E,aQ (aQ s.H k a) k b=aQ s.H k b:=by
      intro a b;funext i;by_cases l:i=k
      ·subst l;rw[bQ,bQ]
      rw[bR _ _ _ _ l,bR _ _ _ _ l,bR _ _ _ _ l]
     cases d<;>simp only[S.put,S.new,L]
    grind
   cases h
  ·rename_i n m k jJ fN q R M p r;split at h
   ·rename_i U f Y z;cases h;obtain⟨agf,kH,hnm,A,B,_⟩:=Q;obtain⟨l0,afM,rfl⟩:=jG A;have D:m=n:=O
    subst D;simp only[Bool.and_eq_true] at f z;have c:=eB z.2;have I:m.toNat*j.bytes<=1000000000*200000:=nh O c;have bB:=k8 B;have W:=OC (K:=K) (s:=s) (d:=d) (ty:=ty) (pos:=pos) (af:=af) (g:=g) k (L _ U) x y o m.toNat p (gC cn) eO he (by rw[hx,<-bB]) (by rw[hy,<-bB]) (nV r) f.1 Y z.1 O O;have hk:((s.new k (.arr o 1 j.size (List.replicate m.toNat p))).put d (.a7 k 1 j.size 0 m.toNat)).H k=some (.arr o 1 j.size (List.replicate m.toNat p)):=by
     cases d<;>exact bQ _ _ _
    have b9:=XF (K:=K) k fN q hk agf kH f.2;rw[qS,Dm]
    have: ∀F G:E,({((s.new k F).put d (.a7 k 1 j.size 0 m.toNat)) with H:=aQ ((s.new k F).put d (.a7 k 1 j.size 0 m.toNat)).H k (some G)}:S)=(s.new k G).put d (.a7 k 1 j.size 0 m.toNat):=by
     intro F G;have L: ∀a b:Option E,aQ (aQ s.H k a) k b=aQ s.H k b:=by
      intro a b;funext i;by_cases l:i=k
      ·subst l;rw[bQ,bQ]
      rw[bR _ _ _ _ l,bR _ _ _ _ l,bR _ _ _ _ l]
     cases d<;>simp only[S.put,S.new,L]
    rw[this] at b9;exact W.ahS b9
   cases h
  cases h
 cases h
theorem Ws{C:dE}(B:dM K.P C.b')(_hn0:C.c6=K.c6){D:TypeId}{H:Nat->Option E}{w:V}{n:List ch}{G:List df}(u: ∀k e,H k=some e->s.H k=some e)(I:jA K.nt d=true)
  (M:s.get x=v) (N:s.get y=w) (h:FT C d t D H v w F=some (e,G,n)) (o:cc G):dL K ⟨d,.call {callee:= .builtin .append,args:= #[x,y],argTypes:= #[t,D]},ty,pos,af,g⟩ s (e.app s):=by
 unfold FT at h;split at h
 ·cases h
 rename_i i T;split at h
 ·rename_i L p;have U:K.P.underlying t=some (.slice L):=(B _ _ T).hU.2.2.2 L p;split at h
  ·cases h
  rename_i j Q;obtain⟨qn,Y,_⟩:=B _ _ Q;split at h
  ·rename_i k gen W off len a R F hw;split at h
   ·rename_i e' c q b hh;split at h
    ·rename_i h1 m r;cases h;obtain⟨rfl,rfl,rfl,rfl,l,z,A,_⟩:=o;obtain⟨aV,rfl⟩:=vO l;simp only[Bool.and_eq_true] at m r;have e1:=cH r.1;have e2:=cH r.2;have lX:=cH h1;subst e1;subst e2;subst lX;have f:(b.length+a.length)*j.bytes<=1000000000*140000:=nh aV (eB m.2.2);have Q:=ZQ (K:=K) (s:=s) (d:=d) (ty:=ty) (pos:=pos) (af:=af) (g:=g) (gen:=c) (size:=j.size) k x y e' b a (gC I) M (by rw[N,<-hw];exact tm w) (u _ _ hh) U Y m.1 m.2.1 z A O O;rw[cP]
     have: ∀v e,cM.app ⟨m6 d v,[(k,some e)],[]⟩ s=({s with H:=aQ s.H k (some e)}:S).put d v:=by intro v e;cases d<;>rfl
     grind
    cases h
   cases h
  cases h
 cases h
theorem U5{C:dE}(j9:dM K.P C.b'){lB:TypeId}{H:Nat->Option E}{w:V}(G: ∀k e,H k=some e->s.H k=some e)(f:jA K.nt d=true)
  (u:s.get x=v) (I:s.get y=w) (h:Fp C d t lB H v w Q=some (e,lK,W)) (o:cc lK):dL K ⟨d,.call {callee:= .builtin .append,args:= #[x,y],argTypes:= #[t,lB]},ty,pos,af,g⟩ s (e.app s):=by
 unfold Fp at h;split at h
 ·cases h
 rename_i i aD;split at h
 ·rename_i M N;have T:K.P.underlying t=some (.slice M):=(j9 _ _ aD).hU.2.2.2 M N;split at h
  ·cases h
  rename_i j U;obtain⟨qn,Y,_⟩:=j9 _ _ U;split at h
  ·rename_i k gen r off len dU g3 z3 ajt n3 R Q;split at h
   ·rename_i fN m b a ahZ m3 aeM c6 c af8 z A;split at h
    ·rename_i l n L;cases h;obtain⟨rfl,rfl,rfl,rfl,uu,mP,rfl,rfl,h3,B,Iz,xz,_⟩:=o;obtain⟨aV,rfl⟩:=vO B;simp only[Bool.and_eq_true] at l n L;have D:=cH l.1;have F:=cH l.2;have lX:=cH L.1;subst D;subst F;subst lX;have hmul:(a.length+(c6::c).length)*j.bytes<=1000000000*140000:=nh aV (eB n.2.2);have U:=Yq (K:=K) (s:=s) (d:=d) (ty:=ty) (pos:=pos) (af:=af) (g:=g) (gen:=b) (size:=j.size) k dU aeM (c.length+1) x y M fN ahZ m m3 a (c6::c) af8 (gC f) u I (G _ _ z) (G _ _ A) h3 rfl T Y n.1 uu mP Iz xz (Nat.succ_pos _) L.2.1 L.2.2 O O;rw[cP]
     have: ∀v e,cM.app ⟨m6 d v,[(k,some e)],[]⟩ s=({s with H:=aQ s.H k (some e)}:S).put d v:=by intro v e;cases d<;>rfl
     grind
    cases h
   ·rename_i e' b p a HN z A;split at h
    ·rename_i l n;cases h;obtain⟨rfl,rfl,rfl,rfl,q,hl1,rW,rfl,_⟩:=o;simp only[Bool.and_eq_true] at l n;have D:=cH l.1;have F:=cH l.2;have xf:=cH n.1;have xg:=cH n.2.1;have hp:0<j.size:=by simpa[Nat.blt_eq] using n.2.2
     subst D;subst F;subst xf;subst xg;subst q;have U:=Xu (K:=K) (s:=s) (d:=d) (ty:=ty) (pos:=pos) (af:=af) (g:=g) _ _ _ _ x y _ _ (gC f) u I (G _ _ z) T Y hp hl1 rW
     have: ∀v e,cM.app ⟨m6 d v,[(dU,some e)],[]⟩ s=({s with H:=aQ s.H dU (some e)}:S).put d v:=by intro v e;cases d<;>rfl
     grind
    cases h
   cases h
  ·rename_i k gen r off len Q;split at h
   ·rename_i e' b p a z;split at h
    ·rename_i l n;cases h;obtain⟨rfl,rfl,q,_⟩:=o;simp only[Bool.and_eq_true] at l;have D:=cH l.1;have F:=cH n;have hp:0<j.size:=by simpa[Nat.blt_eq] using l.2
     subst D;subst F;subst q;rw[n0];exact Vv (K:=K) (s:=s) (d:=d) (ty:=ty) (pos:=pos) (af:=af) (g:=g) _ _ x y _ _ _ (gC f) u (dq.of_eq I) (G _ _ z) T Y hp
    cases h
   cases h
  cases h
 cases h
theorem adn{x:T}(h:yA v=some x):v= .t x:=by
 cases v<;>simp[yA] at h
 grind
theorem KT{d:dG}: ∀{j:Nat} {a:List V} {r:List T} {c:List (Nat×Nat×V)},vU d j a=some (r,c)->r.length=a.length/\
  (∀i b v,(i,b,v)∈c->i=0/\ ∃k,b=j+k/\a[k]? =some v)/\(∀(k:Nat) x,r[k]? =some x->(∃v,(0,j+k,v)∈c)\/(d.ej (j+k)=none/\a[k]? =some (.t x)))
 |j,[],r,c,h=>by cases h;exact⟨rfl,λ_ _ _ h=>bt h List.not_mem_nil,λk x h=>by simp at h⟩
 |j,v::a,r,c,h=>by
  simp only[vU] at h;split at h
  ·cases h
  rename_i G n B;obtain⟨aH,a2,a3⟩:=KT B;have y: ∀i b c8,(i,b,c8)∈n->i=0/\ ∃k,b=j+k/\(v::a)[k]? =some c8:=λi b c8 hm=>by
   obtain⟨D,k,L,F⟩:=a2 i b c8 hm;exact⟨D,k+1,O,by simpa using F⟩
  split at h
  ·rename_i Q z;cases A:v.one with
   |false=>rw[A] at h;cases h
   |true=>
    rw[A] at h;cases h;refine⟨by simp[aH],λi b c8 hm=>?_,λk x l=>?_⟩
    ·rcases dI.1 hm with e|hm
     ·cases e;exact⟨rfl,0,rfl,rfl⟩
     exact y i b c8 hm
    cases k with
    |zero=>exact .inl ⟨v,eH⟩
    |succ k=>
     have:=a3 k x (by simpa using l);rw[show j+1+k=j+(k+1) by omega] at this;rcases this with ⟨c8,o⟩|⟨m,p⟩
     ·exact .inl ⟨c8,eu _ o⟩
     exact .inr ⟨m,by simpa using p⟩
  rename_i z;split at h
  ·rename_i R q;cases h;refine⟨by simp[aH],y,λk x l=>?_⟩;cases k with
   |zero=>simp at l;subst l;exact .inr ⟨z,by simp[adn q]⟩
   |succ k=>
    have:=a3 k x (by simpa using l);rw[show j+1+k=j+(k+1) by omega] at this;rcases this with m|⟨m,p⟩
    ·exact .inl m
    exact .inr ⟨m,by simpa using p⟩
  cases h
theorem acX{u:TypeDesc}{p:Nat}(k:Nat)(hk:s.u k=false)(n:Array (Nat×Operand))(e:TypeId)(l Y:List V)(q:List dG)(m:Nat)(r:List T)(N:List (Nat×Nat×V))(cn: ∀i,d=some i->Nat.blt i K.nt=true)(A:e8 ((n.toList.map (·.2)).map s.get) l)
  (hu:K.P.underlying t=some (.slice e)) (he:b4 K.P e u z size p) (B:Nat.beq n.toList.length l.length=true) (hp:Nat.blt 0 size=true) (D:Nat.ble (1*size) 16777216=true)
  (hM:kl (λi=>some (i*size,size)) (List.replicate (1*size) .cX) ((n.toList.map (·.1)).zip l)=some Y) (r3:vU (U q m) 0 Y=some (r,N)) (hcl:Y.length=size) (uu:(U q m).size=size) (mP:(U q m).ty=e):
  dL K ⟨d,.buildSlice t 1 n,ty,pos,af,g⟩ s ((s.new k (.a6 q m 1 [r] N)).put d (.a7 k 1 size 0 1)):=by
 have afW:0<size:=by simpa[Nat.blt_eq] using hp
 obtain⟨ya,aja,ajb⟩:=KT r3;intro β a w next Q bO hkk
 have H':dh β w (own K β s.H) l ((n.toList.map (·.2)).map a.eval):=(bO.nJ _).le A;have hz2:=ve a.eval n.toList;obtain⟨b,h1,h2⟩:=vM (β:=β) (w:=w) (X:=own K β s.H) (λi=>some (i*size,size)) (n.toList.map (·.1)) l _ (List.replicate (1*size) .cX)
  ((Array.range (1*size)).map ((if 1*size=0 then #[] else z.cells)[· %(if 1*size=0 then #[] else z.cells).size]!)) _ (Ak _ _ _ _ _ a1) H' (by simpa using cH B) hM
 have F:(execOp a.eval ⟨d,.buildSlice t 1 n,ty,pos,af,g⟩).run K.P w= .ok (.value (.slice (some ⟨w.heap.size,0,none⟩) 1 1)) (w.alloc (.cells b e)):=by
  have G:(n.toList.map λx=>match x with|(i,x)=>(i,a.eval x))=(n.toList.map (·.1)).zip ((n.toList.map (·.2)).map a.eval):=by rw[<-hz2]
  have aV: ¬(1*size>2^24):=by have:=eB D;omega
  have h0: ¬1*size=0:=O
  simp only[execOp,Instr.buildSlice,Sem.run_bind,run_underlying hu,Result.andThen_ok,he.run_sizeOf,aV,if_false,Array.toList_map];simp only[h0,if_false] at h1;simp only[h0,if_false,Sem.run_pure,Sem.run_bind,he.su,Result.andThen_ok];rw[G,h1];rfl
 unfold Oper.wp;rw[F];have o:b.size=size:=by
  have h:=h2.1
  grind
 have L:=bO.Jc k 1 hk b e (.a6 q m 1 [r] N) (λβ' hJ w' hw oQ R jd=>⟨cD _,Or.inr ⟨w.heap.size,b,λ_ _ _=>False,oQ,by subst hw;rw[mP];exact iZ _ _,by rw[o,uu];simp,λrow W=>by rw[kU.1 W,ya,hcl,uu],λi j row x y aH a2 a3=>by
  have aD:=(bM.1 aH).1;have Il:i=0:=by simpa using aD
  subst Il;simp at aH;subst aH;rw[fT,dn] at a3;refine⟨λv A=>⟨?_,λ_ h=>h⟩,λcu=>?_⟩
  ·obtain⟨_,b0,f,G⟩:=aja _ _ _ A;rw[dn] at f;subst f;exact R _ _ (h2.2 _ _ y G (by simpa using a3))
  rcases ajb j x a2 with ⟨v,A⟩|⟨f,G⟩
  ·rw[dn] at A;exact bt A (cu v)
  rw[dn] at f;rw[f];have h6:=R _ _ (h2.2 _ _ y G (by simpa using a3));cases h6 with|t _ _ h=>exact .iG _ _ _ h λ_ h=>h,λ_ _ _ h=>h.elim,λ_ _ _ _ _ h=>h.elim,λc=>⟨λh=>bt h (jd c),λ⟨_,_,h⟩=>h.elim⟩⟩⟩)
 have I:(w.alloc (.cells b e)).heap.size=w.heap.size+1:=World.size_alloc ..;have gd:(w.alloc (.cells b e)).shape? w.heap.size=some (e,b.size):=by unfold World.shape?;rw[iZ]
 have M:bh (β.put k (some (some w.heap.size,1))) (w.alloc (.cells b e)) (own K (β.put k (some (some w.heap.size,1))) (s.new k (.a6 q m 1 [r] N)).H) (.a7 k 1 size 0 1)
   (.slice (some ⟨w.heap.size,0*size,none⟩) 1 1):= .a7 k 1 size 0 1 1 w.heap.size b.size e (cD _) (bQ _ _ _) (I▸ob _) gd (by rw[o];omega) (cD _) (by unfold maxLen;omega)
 rw[fT] at M;exact hkk _ _ _ (L.put d cn M)
theorem NY{n j:Nat}{v:V}: ∀{a:List V} {i:Nat},(n,j,v)∈pL i a->j=0/\ ∃k,n=i+k/\a[k]? =some v
 |x::a,i,h=>by
  simp only[pL] at h;rcases dI.1 h with h|h
  ·cases h;exact⟨rfl,0,rfl,rfl⟩
  obtain⟨e,k,c,b⟩:=NY h;exact⟨e,k+1,O,by simpa using b⟩
theorem NX{v:V}: ∀{vs:List V} {i k:Nat},vs[k]? =some v->(i+k,0,v)∈pL i vs
 |x::vs,i,0,h=>by
  simp at h;subst h;exact eH
 |x::vs,i,k+1,h=>by have:=NX (i:=i+1) (k:=k) (vs:=vs) (by simpa using h);rw[show i+1+k=i+(k+1) by omega] at this;exact eu _ this
theorem acY{u:TypeDesc}{b A:Nat}(k:Nat)(hk:s.u k=false)(n:Nat)(p:Array (Nat×Operand))(e:TypeId)(o B:List V)(D:List dG)(m:Nat)(cn: ∀i,d=some i->Nat.blt i K.nt=true)(N:e8 ((p.toList.map (·.2)).map s.get) o)
  (hu:K.P.underlying t=some (.slice e)) (he:b4 K.P e u z b A) (F:Nat.beq p.toList.length o.length=true) (cu:Nat.blt 0 n=true) (T:b=1) (G:Nat.ble (n*b) 16777216=true)
  (hM:kl (λi=>some (i*b,b)) (List.replicate (n*b) .cX) ((p.toList.map (·.1)).zip o)=some B) (hcl:B.length=n) (Y:(U D m).size=1) (mP:(U D m).ty=e):
  dL K ⟨d,.buildSlice t n p,ty,pos,af,g⟩ s ((s.new k (.a6 D m 1 (List.replicate n [.ay []]) (pL 0 B))).put d (.a7 k 1 1 0 n)):=by
 subst T;have L:0<n:=by simpa[Nat.blt_eq] using cu
 intro β a w next Q bO hkk
 have H':dh β w (own K β s.H) o ((p.toList.map (·.2)).map a.eval):=(bO.nJ _).le N;have hz2:=ve a.eval p.toList;obtain⟨l,h1,h2⟩:=vM (β:=β) (w:=w) (X:=own K β s.H) (λi=>some (i*1,1)) (p.toList.map (·.1)) o _ (List.replicate (n*1) .cX)
  ((Array.range (n*1)).map ((if n*1=0 then #[] else z.cells)[· %(if n*1=0 then #[] else z.cells).size]!)) _ (Ak _ _ _ _ _ a1) H' (by simpa using cH F) hM
 have aia:=eB G;have R:(execOp a.eval ⟨d,.buildSlice t n p,ty,pos,af,g⟩).run K.P w= .ok (.value (.slice (some ⟨w.heap.size,0,none⟩) n n)) (w.alloc (.cells l e)):=by
  have e2:(p.toList.map λx=>match x with|(i,x)=>(i,a.eval x))=(p.toList.map (·.1)).zip ((p.toList.map (·.2)).map a.eval):=by rw[<-hz2]
  have aV: ¬(n*1>2^24):=O
  have h0: ¬n*1=0:=O
  simp only[execOp,Instr.buildSlice,Sem.run_bind,run_underlying hu,Result.andThen_ok,he.run_sizeOf,aV,if_false,Array.toList_map];simp only[h0,if_false] at h1;simp only[h0,if_false,Sem.run_pure,Sem.run_bind,he.su,Result.andThen_ok];rw[e2,h1];rfl
 unfold Oper.wp;rw[R];have q:l.size=n:=by
  have h:=h2.1;rw[ni] at h;omega
 have W:=bO.Jc k 1 hk l e (.a6 D m 1 (List.replicate n [.ay []]) (pL 0 B)) (λβ' hJ w' hw L kG jd=>⟨cD _,Or.inr ⟨w.heap.size,l,λ_ _ _=>False,L,by subst hw;rw[mP];exact iZ _ _,by rw[q,Y];simp,λf r=>by rw[(vq.1 r).2,Y];rfl,λi j f x y aH a2 a3=>by
  have aD:=(bM.1 aH).1;rw[Dm] at aD;have r:f=[.ay []]:=(vq.1 (bC aH)).2;subst r;have hj0:j=0:=by
   have:=(bM.1 a2).1;simpa using this
  subst hj0;rw[Y,Nat.mul_one,qO] at a3;refine⟨λv N=>⟨?_,λ_ h=>h⟩,λr0=>?_⟩
  ·obtain⟨_,b0,e1,e2⟩:=NY N;rw[dn] at e1;subst e1;exact kG _ _ (h2.2 _ _ y e2 (by simpa using a3))
  have bB:=bg (O:i<B.length)
  have:=NX (i:=0) bB;rw[dn] at this;exact bt this (r0 _),λ_ _ _ h=>h.elim,λ_ _ _ _ _ h=>h.elim,λc=>⟨λh=>bt h (jd c),λ⟨_,_,h⟩=>h.elim⟩⟩⟩)
 have I:(w.alloc (.cells l e)).heap.size=w.heap.size+1:=World.size_alloc ..;have gd:(w.alloc (.cells l e)).shape? w.heap.size=some (e,l.size):=by unfold World.shape?;rw[iZ]
 have M:bh (β.put k (some (some w.heap.size,1))) (w.alloc (.cells l e)) (own K (β.put k (some (some w.heap.size,1))) (s.new k (.a6 D m 1 (List.replicate n [.ay []]) (pL 0 B))).H) (.a7 k 1 1 0 n)
   (.slice (some ⟨w.heap.size,0*1,none⟩) n n):= .a7 k 1 1 0 n n w.heap.size l.size e (cD _) (bQ _ _ _) (I▸ob _) gd (by rw[q];omega) (cD _) (by unfold maxLen;omega)
 rw[fT] at M;exact hkk _ _ _ (W.put d cn M)
theorem ady{u:TypeDesc}{D:Nat}(k:Nat)(hk:s.u k=false)(n:Nat)(p:Array (Nat×Operand))(e:TypeId)(o:List V)(c:List (List T))(cn: ∀i,d=some i->Nat.blt i K.nt=true)(bI:e8 ((p.toList.map (·.2)).map s.get) o)
  (hu:K.P.underlying t=some (.slice e)) (he:b4 K.P e u z size D) (L:Nat.beq p.toList.length o.length=true)
  (cu:c.length=n) (hp:Nat.blt 0 size=true) (F: ∀l,l∈c->l.length=size) (B:Nat.ble (n*size) 16777216=true)
  (hM:kl (λi=>some (i*size,size)) (List.replicate (n*size) .cX) ((p.toList.map (·.1)).zip o)=some (c.flatten.map .t)):
  dL K ⟨d,.buildSlice t n p,ty,pos,af,g⟩ s ((s.new k (.arr e 1 size c)).put d (.a7 k 1 size 0 c.length)):=by
 subst cu;have afW:0<size:=by simpa[Nat.blt_eq] using hp
 intro β a w next Q bO U
 have Y:dh β w (own K β s.H) o ((p.toList.map (·.2)).map a.eval):=(bO.nJ _).le bI;have hz2:=ve a.eval p.toList;obtain⟨m,A,G⟩:=vM (β:=β) (w:=w) (X:=own K β s.H) (λi=>some (i*size,size)) (p.toList.map (·.1)) o _ (List.replicate (c.length*size) .cX)
  ((Array.range (c.length*size)).map ((if c.length*size=0 then #[] else z.cells)[· %(if c.length*size=0 then #[] else z.cells).size]!)) _ (Ak _ _ _ _ _ a1) Y (by simpa using cH L) hM
 have R:(execOp a.eval ⟨d,.buildSlice t c.length p,ty,pos,af,g⟩).run K.P w= .ok (.value (.slice (some ⟨w.heap.size,0,none⟩) c.length c.length)) (w.alloc (.cells m e)):=by
  have e2:(p.toList.map λx=>match x with|(i,x)=>(i,a.eval x))=(p.toList.map (·.1)).zip ((p.toList.map (·.2)).map a.eval):=by rw[<-hz2]
  have aV: ¬(c.length*size>2^24):=by have:=eB B;omega
  simp only[execOp,Instr.buildSlice,Sem.run_bind,run_underlying hu,Result.andThen_ok,he.run_sizeOf,aV,if_false,Array.toList_map];by_cases N:c.length*size=0
  ·simp only[N,if_true] at A;simp only[N,if_true,Sem.run_pure,Sem.run_bind,Result.andThen_ok];rw[e2,A];rfl
  simp only[N,if_false] at A;simp only[N,if_false,Sem.run_pure,Sem.run_bind,he.su,Result.andThen_ok];rw[e2,A];rfl
 unfold Oper.wp;rw[R];have q:m.size=c.flatten.length:=by
  have h:=G.1
  grind
 have W:c.flatten.length=c.length*size:=by
  rw[List.length_flatten]
  have:c.map List.length=List.replicate c.length size:=List.eq_replicate_iff.2 ⟨a1,λb aV=>by obtain⟨r,bO,rfl⟩:=et.1 aV;exact F r bO⟩;rw[this];simp
 have f: ∀(c:List (List T)),(∀l,l∈c->l.length=size)-> ∀(i j:Nat) (l:List T) (x:T),c[i]? =some l->l[j]? =some x->c.flatten[i*size+j]? =some x:=by
  intro c;induction c with
  |nil=>intro _ i j l x h _;simp at h
  |cons r c l2=>
   intro hs i j l x A G;have bO:=hs r a1;rw[List.flatten_cons];cases i with
   |zero=>
    simp at A;subst A
    have:=(bM.1 G).1;rw[fT,dn,iu this];exact G
   |succ i=>
    simp at A;rw[hi (by rw[bO,dC];omega)];rw[show(i+1)*size+j-r.length=i*size+j by rw[bO,dC];omega];exact l2 (λl h=>hs l (by simp[h])) i j l x A G
 have v:=bO.new k 1 hk m e (.arr e 1 size c) (λβ' hJ w' hw oQ kG=>⟨cD _,Or.inr ⟨w.heap.size,m,oQ,by subst hw;exact iZ _ _,by rw[q,W];exact cD _,F,λi j l x y aH a2 a3=>by
  have h5:=f c F i j l x aH a2;have h6:=G.2 (i*size+j) (.t x) y (by rw[er,h5];rfl) (by simpa using a3);have lg:=kG _ _ h6;cases lg with|t _ _ h=>exact h⟩⟩)
 have I:(w.alloc (.cells m e)).heap.size=w.heap.size+1:=World.size_alloc ..;have gd:(w.alloc (.cells m e)).shape? w.heap.size=some (e,m.size):=by unfold World.shape?;rw[iZ]
 have M:bh (β.put k (some (some w.heap.size,1))) (w.alloc (.cells m e)) (own K (β.put k (some (some w.heap.size,1))) (s.new k (.arr e 1 size c)).H) (.a7 k 1 size 0 c.length)
   (.slice (some ⟨w.heap.size,0*size,none⟩) c.length c.length):= .a7 k 1 size 0 c.length c.length w.heap.size m.size e (cD _) (bQ _ _ _) (I▸ob _) gd (by rw[q,W];simp) (cD _)
    (by
     have aV:=eB B;unfold maxLen
     have:c.length*1<=c.length*size:=Nat.mul_le_mul_left _ O;omega)
 rw[fT] at M;exact U _ _ _ (v.put d cn M)
theorem aaS{C:dE}(f:dM K.P C.b'){m:Array (Nat×Operand)}{a:List V}{v G:List ch}{I:List df}(M: ∀k,u k=false->s.u k=false)(B:jA K.nt d=true)
  (L:a=(m.toList.map (·.2)).map s.get) (h:Ho C d t n (m.toList.map (·.1)) u a v=some (e,I,G)) (Q:cc I):dL K ⟨d,.buildSlice t n m,ty,pos,af,g⟩ s (e.app s):=by
 unfold Ho at h;split at h
 ·cases h
 rename_i i N;split at h
 ·rename_i p R;have D:K.P.underlying t=some (.slice p):=(f _ _ N).hU.2.2.2 p R;split at h
  ·cases h
  rename_i j T;obtain⟨qn,F,_⟩:=f _ _ T;split at h
  ·rename_i k v W;split at h
   ·rename_i o;cases h
    have:m= #[]:=by
     have:m.toList=[]:=by simpa using W
     grind
    subst this;rw[qS];exact ZP k (M _ o) p (gC B) D F
   cases h
  ·split at h
   ·cases h
   rename_i cs c;split at h
   ·cases h
   rename_i q l;split at h
   ·rename_i U o r x Y;cases h;have b:=cH o;obtain⟨y,z,A⟩:=zP j.size _ q b;rw[qS];refine ady _ (M _ U) _ m p (gu a) _ (gC B) (by rw[L];exact lx _) D F (by rw[sf];simpa using r) y Y z x (by rw[c,A,nV l])
   cases h
  ·split at h
   ·cases h
   rename_i cs c;split at h
   ·cases h
   rename_i q l;split at h
   ·rename_i o r x;cases h;have b:=cH o;obtain⟨y,z,A⟩:=zP j.size _ q b;rw[n0];rw[<-Q.1];refine JK (vals:=gu a) (gC B) ?_ (J9 _ m p (gu a) _ D F ?_ (by simp[y]) z x (by rw[c,A,nV l]))
    ·rw[L];simp only[Op.operands];exact lx _
    rw[sf];simpa using r
   cases h
  ·split at h
   ·cases h
   rename_i cs c;split at h
   ·cases h
   rename_i q l;split at h
   ·rename_i o r x;cases h;have b:=cH o;obtain⟨y,z,A⟩:=zP j.size _ q b;rw[n0];refine JK (vals:=gu a) (gC B) ?_ (J9 _ m p (gu a) _ D F ?_ (by simp[y]) z x (by rw[c,A,nV l]))
    ·rw[L];simp only[Op.operands];exact lx _
    rw[sf];simpa using r
   cases h
  cases h
 cases h
theorem Yi{C:dE}(G:dM K.P C.b'){a:Array (Nat×Operand)}{Y:List V}(L: ∀k,u k=false->s.u k=false)(Q:jA K.nt d=true)
  (R:Y=(a.toList.map (·.2)).map s.get) (h:GH C d t n (a.toList.map (·.1)) u Y b=some (e,c,l)):dL K ⟨d,.buildSlice t n a,ty,pos,af,g⟩ s (e.app s):=by
 unfold GH at h;split at h
 ·cases h
 rename_i i v;split at h
 ·rename_i x z;have W:K.P.underlying t=some (.slice x):=(G _ _ v).hU.2.2.2 x z;split at h
  ·cases h
  rename_i j I;obtain⟨T,f,_⟩:=G _ _ I;split at h
  ·rename_i k y m b;split at h
   ·cases h
   rename_i cs p;split at h
   ·cases h
   rename_i r M A;split at h
   ·rename_i B q o D F;cases h;simp only[Bool.and_eq_true] at q o;rw[qS];exact acX k (L _ B) a x (tS ((U y m).ej 0) Y) cs y m r M (gC Q) (by rw[R];exact abJ _ _) W f (by rw[VF];simpa using o.1) F D p A (cH q.1) (cH q.2) (cH o.2)
   cases h
  ·rename_i k y m b _;split at h
   ·cases h
   rename_i cs p;split at h
   ·rename_i B q o D F;cases h;simp only[Bool.and_eq_true] at q o;have N:=cH q.1;rw[qS];exact acY k (L _ B) _ a x (gu Y) cs y m (gC Q) (by rw[R];exact lx _) W f (by rw[sf];simpa using o.1) F N D p (cH q.2.1) (cH o.2.2) (cH o.2.1)
   cases h
  cases h
 cases h
theorem Zx{C:dE}(x:C.P=K.P)(y:C.G=K.G){c:Operand}{a:Array Operand}{k:Array TypeId}{Y:List V}(z:jA K.nt d=true)
  (p:Y=s.get c::a.toList.map s.get) (h:GM C d Y i=some (e,m,b)) (q:cc m):dL K ⟨d,.call {callee:= .value c,args:=a,argTypes:=k},ty,pos,af,g⟩ s (e.app s):=by
 unfold GM at h;split at h
 ·rename_i f l args;split at h
  ·split at h
   ·rename_i n;cases h;rw[n0];obtain⟨⟨r,o⟩,_⟩:=q;rw[x] at r o;rw[y] at o;simp only[List.cons.injEq] at p;exact Oq l _ _ r p.1.symm (gC z) (by rw[<-p.2];exact lx _) n o
   cases h
  ·cases h;rw[n0];obtain⟨n,⟨r,o⟩,_⟩:=q;rw[x] at r o;rw[y] at o;simp only[List.cons.injEq] at p;exact Oq l _ _ r p.1.symm (gC z) (by rw[<-p.2];exact lx _) n o
  cases h
 cases h
mutual
theorem Nl{U G:Map}{w a:World}{X W:Nat->Prop}: ∀{v:V} {u:Value},rz v=true->bh U w X v u->bh G a W v u
 | .t (.int _ _),u,_,h=>by rw[du h];exact .t _ _ (.int _ _)
 | .t (.bool _),u,_,h=>by rw[mV h];exact .t _ _ (.bool _)
 | .t (.str _),u,_,h=>by rw[gO h];exact .t _ _ (.str _)
 | .agg cs,u,b,h=>by
  simp only[rz] at b;cases h with|agg _ k l h=>exact .agg _ k l (λi c u e m=>Fm b i c u e (h i c u e m))
 | .bJ cs,u,b,h=>by
  simp only[rz] at b;cases h with|bJ _ k l h=>exact .bJ _ k l (λi c u e m=>Fm b i c u e (h i c u e m))
 | .t (.ay _),_,b,_| .t .e5,_,b,_| .t .gF,_,b,_| .t .gh,_,b,_| .t .mX,_,b,_| .t .err,_,b,_=>by simp[rz] at b
 | .ref _ _,_,b,_| .aK _,_,b,_| .a7 _ _ _ _ _,_,b,_| .ct _ _ _ _ _,_,b,_| .fn _ _,_,b,_| .cX,_,b,_=>by simp[rz] at b
theorem Fm{U G:Map}{w a:World}{X W:Nat->Prop}: ∀{cs:List V},tN cs=true-> ∀(i:Nat) c u,cs[i]? =some c->bh U w X c u->bh G a W c u
 | [],_,_,_,_,h,_=>by simp at h
 |c::cs,b,0,k,u,e,h=>by
  simp only[tN,Bool.and_eq_true] at b;simp at e;subst e;exact Nl b.1 h
 |c::cs,b,i+1,k,u,e,h=>by simp only[tN,Bool.and_eq_true] at b;exact Fm b.2 i k u (by simpa using e) h
end
theorem cy.read{β:Map}{w:World}{X W:Nat->Prop}{a:List (List T)}{u:Value}(h:cy β w X k (.arr t gen size a))(B:bh β w X (.a7 k gen size 0 a.length) u)
  (D: ∀b,W b->X b) (F: ∀b,At β k b-> ¬W b):cL w W (.ay a) u:=by
 obtain⟨q,r⟩:=iK h;rcases eT B r with ⟨y,b,n,G,rfl,m,L,M,Q,R,N⟩|⟨m,_,f,rfl⟩
 ·subst m;rcases h.2 with ⟨o,z⟩|⟨P,l,o,z,U,A,v⟩
  ·rw[r] at o;cases o
  rw[r] at o;cases o;rw[fT];refine .ay a b 0 size y (λi j=>l.getD (i*size+j) undef) L (F b (.inl ⟨_,r⟩)) R A (λi j aD I=>?_) λi j p x aH a2=>?_
  ·have c:i*size+j<l.size:=by
    have:(i+1)*size<=a.length*size:=dt _ aD;rw[dC] at this;omega
   rw[dn];simp[World.cell?,z,c]
  have aD:=(bM.1 aH).1;have I:j<size:=by rw[<-A p (bC aH)];exact(bM.1 a2).1
  have c:i*size+j<l.size:=by
   have:(i+1)*size<=a.length*size:=dt _ aD
   grind
  have:=v i j p x l[i*size+j] aH a2 (by simp[c]);have e:l.getD (i*size+j) undef=l[i*size+j]:=by simp[c]
  rw[e];exact this.mono (Ext.refl _ _) λb _=>D b
 have:a=[]:=List.length_eq_zero_iff.1 f;subst this;exact .fB _ _
theorem cy.ahD{β:Map}{w:World}{X G:Nat->Prop}{l:List dG}{m:Nat}{a:List (List T)}{u:Value}(h:cy β w X k (.a6 l m gen a []))(f:bh β w X (.a7 k gen (U l m).size 0 a.length) u)
  (t: ∀b,G b->X b) (Q: ∀b,At β k b-> ¬G b):cL w G (.ay a) u:=by
 obtain⟨q,D⟩:=s0 h;rcases eT f D with ⟨L,b,n,v,rfl,o,I,hs,M,N,hm⟩|⟨o,_,P,rfl⟩
 ·subst o;rcases h.2 with ⟨p,R⟩|⟨fH,r,B,p,R,h3,W,V,_,_,Y⟩
  ·rw[D] at p;cases p
  rw[D] at p;cases p;rw[fT];have y: ∀i j,i<a.length->j<(U l m).size->i*(U l m).size+j<r.size:=λi j aD F=>by
   have:(i+1)*(U l m).size<=a.length*(U l m).size:=dt _ aD
   grind
  refine .ay a b 0 (U l m).size L (λi j=>r.getD (i*(U l m).size+j) undef) I (Q b (.inl ⟨_,D⟩)) N W (λi j aD F=>?_) λi j z x aH a2=>?_
  ·have:=y i j aD F;rw[dn];simp[World.cell?,R,this]
  have aD:=(bM.1 aH).1;have F:j<(U l m).size:=by rw[<-W z (bC aH)];exact(bM.1 a2).1
  have A:=y i j aD F
  have:=(V i j z x r[i*(U l m).size+j] aH a2 (by simp[A])).none;have e:r.getD (i*(U l m).size+j) undef=r[i*(U l m).size+j]:=by simp[A]
  rw[e];exact this.yn t λc bB=>Q c (.inr ((Y c).2 ⟨i,j,bB⟩))
 have:a=[]:=List.length_eq_zero_iff.1 P;subst this;exact .fB _ _
def tn:V->List Nat
 | .a7 k _ _ _ _=>[k]
 |_=>[]
mutual
def pE(H:Nat->Option E):V->List Nat
 | .a7 k _ _ _ _=>[k]
 | .ref id _=>id::(match H id with
  |some (.cells cs)=>cs.flatMap tn
  |_=>[])
 | .agg cs=>oj H cs
 | .bJ cs=>oj H cs
 | .fn _ cs=>oj H cs
 | .t _| .aK _| .ct _ _ _ _ _| .cX=>[]
def oj(H:Nat->Option E):List V->List Nat
 | []=>[]
 |v::a=>pE H v++oj H a
end
section
variable {β:Map}{w:World}{X X1:Nat->Prop}{H:Nat->Option E}
theorem N5{x:T}{u:Value}(r: ∀k e,H k=some e->cy β w X k e)(n: ∀b,X1 b->X b)(z: ∀k,k∈tn v-> ∀b,At β k b-> ¬X1 b)
  (h:w7 H v=some (x,c)) (a:cc c) (o:bh β w X v u):cL w X1 x u:=by
 cases v with
 |a7 k gen A B len=>
  simp only[w7] at h;split at h
  ·rename_i ty i p l q;cases h;obtain⟨rfl,rfl,rfl,rfl,_⟩:=a;exact(r k _ q).read o n (z k (by simp[tn]))
  ·rename_i D m i l q;cases h;obtain⟨rfl,rfl,rfl,rfl,_⟩:=a;exact(r k _ q).ahD o n (z k (by simp[tn]))
  cases h
 |t y=>
  simp only[w7] at h;cases h;cases o with|t _ _ h=>exact(h.mono (Ext.refl _ _) λb _=>n b).x1
 |agg=>cases h
 |bJ=>cases h
 |ref=>cases h
 |aK=>cases h
 |ct=>cases h
 |fn=>cases h
 |cX=>cases h
theorem Nq(r: ∀k e,H k=some e->cy β w X k e)(z: ∀b,X1 b->X b): ∀{a:List V} {e7:List T} {n:List df},(∀k,k∈a.flatMap tn-> ∀b,At β k b-> ¬X1 b)->Ba H a=some (e7,n)->cc n->
  e7.length=a.length/\ ∀(l:Nat->Option Value),(∀(i:Nat) c u,a[i]? =some c->l i=some u->bh β w X c u)-> ∀(i:Nat) x u,e7[i]? =some x->l i=some u->cL w X1 x u
 | [],_,_,_,h,_=>by cases h;exact⟨rfl,λ_ _ i x u D=>by simp at D⟩
 |v::a,e7,n,A,h,o=>by
  simp only[Ba] at h;split at h
  ·rename_i x F M G L Q;cases h;obtain⟨R,W⟩:=cc.app o;obtain⟨f,t⟩:=Nq r z (λk p=>A k (by rw[yE];exact oa _ p)) Q W;refine⟨by simp[f],λl B i y u q m=>?_⟩;cases i with
   |zero=>
    simp at q;subst q;exact N5 r z (λk p=>A k (by rw[yE];exact lD _ p)) L R (B 0 v u rfl m)
   |succ i=>
    exact t (λj=>l (j+1)) (λj c u I m=>B (j+1) c u (by simpa using I) m) i y u (by simpa using q) m
  cases h
mutual
theorem acD(G: ∀k e,H k=some e->cy β w X k e)(B: ∀b,X1 b->X b): ∀(v:V) {r:V} {y:List df} {u:Value},(∀k,k∈pE H v-> ∀b,At β k b-> ¬X1 b)->
  mF H v=some (r,y)->cc y->bh β w X v u->bh gE w X1 r u
 | .a7 k gen M l len,r,y,u,q,h,a,o=>by
  simp only[mF] at h;split at h
  ·rename_i x z A;cases h;exact .t _ _ (N5 G B (λj Q=>q j (by simpa[pE,tn] using Q)) A a o)
  cases h
 | .t x,r,y,u,q,h,a,o=>by
  simp only[mF] at h;cases h;cases o with|t _ _ h=>exact .t _ _ (h.mono (Ext.refl _ _) λb _=>B b).x1
 | .aK cs,r,y,u,q,h,a,o=>by
  simp only[mF] at h;cases h;exact o.under (u:=gf) B (λ_ h=>by simp[gf] at h) rfl
 | .ref id l,r,y,u,q,h,a,o=>by
  simp only[mF] at h;split at h
  ·rename_i cs m;split at h
   ·rename_i e7 z A;cases h;obtain⟨b,N,rfl⟩:=sX o;obtain⟨fH,n,ty,P,T,lX,xf⟩:=G id _ m;rw[N] at P;cases P;obtain⟨R,D⟩:=Nq G B (λk F=>q k (by simp only[pE,m];exact eu _ F)) A a;have W:b<w.heap.size:=by
     have:=(iP.1 T).1;exact this
    refine .aK (e7.drop l) b l (λj=>n.getD (l+j) undef) W (q id (by simp[pE]) b (.inl ⟨_,N⟩)) (λj Q=>?_) λj x I=>?_
    ·rw[eX] at Q
     have:l+j<n.size:=O
     simp[World.cell?,T,this]
    rw[fS] at I;have Q:=(bM.1 I).1
    have:l+j<n.size:=O
    have e:n.getD (l+j) undef=n[l+j]:=by simp[this]
    rw[e];exact D (λi=>n[i]?) (λi c u m p=>xf i c u m p) (l+j) x _ I (by simp[this])
   cases h
  cases h
 | .agg cs,r,y,u,q,h,a,o=>by
  simp only[mF] at h;split at h
  ·rename_i U z A;cases h;cases o with|agg _ n Y L=>
   obtain⟨R,D⟩:=wF G B cs (λk F=>q k (by simpa[pE] using F)) A a;exact .agg _ n O λi c u m p=>D (λi=>n[i]?) (λi c u m p=>L i c u m p) i c u m p
  cases h
 | .bJ cs,r,y,u,q,h,a,o=>by
  simp only[mF] at h;split at h
  ·rename_i U z A;cases h;cases o with|bJ _ n Y L=>
   obtain⟨R,D⟩:=wF G B cs (λk F=>q k (by simpa[pE] using F)) A a;exact .bJ _ n O λi c u m p=>D (λi=>n[i]?) (λi c u m p=>L i c u m p) i c u m p
  cases h
 | .fn f cs,r,y,u,q,h,a,o=>by
  simp only[mF] at h;split at h
  ·rename_i U z A;cases h;cases o with|fn _ _ n Y L=>
   obtain⟨R,D⟩:=wF G B cs (λk F=>q k (by simpa[pE] using F)) A a;exact .fn _ _ n O λi c u m p=>D (λi=>n[i]?) (λi c u m p=>L i c u m p) i c u m p
  cases h
 | .ct _ _ _ _ _,_,_,_,_,h,_,_=>by simp only[mF] at h;cases h
 | .cX,_,_,_,_,h,_,_=>by simp only[mF] at h;cases h
theorem wF(z: ∀k e,H k=some e->cy β w X k e)(A: ∀b,X1 b->X b): ∀(l:List V) {a:List V} {o:List df},(∀k,k∈oj H l-> ∀b,At β k b-> ¬X1 b)->
  oG H l=some (a,o)->cc o->a.length=l.length/\ ∀(m:Nat->Option Value),(∀(i:Nat) c u,l[i]? =some c->m i=some u->bh β w X c u)-> ∀(i:Nat) x u,a[i]? =some x->m i=some u->bh gE w X1 x u
 | [],_,_,_,h,_=>by simp only[oG] at h;cases h;exact⟨rfl,λ_ _ i x u F=>by simp at F⟩
 |v::l,a,o,B,h,p=>by
  simp only[oG] at h;split at h
  ·rename_i x G N L Q R;cases h;obtain⟨W,f⟩:=cc.app p;obtain⟨t,I⟩:=wF z A l (λk q=>B k (by simp only[oj];exact oa _ q)) R f;refine⟨by simp[t],λm D i y u r n=>?_⟩;cases i with
   |zero=>
    simp at r;subst r;exact acD z A v (λk q=>B k (by simp only[oj];exact lD _ q)) Q W (D 0 v u rfl n)
   |succ i=>
    exact I (λj=>m (j+1)) (λj c u M n=>D (j+1) c u (by simpa using M) n) i y u (by simpa using r) n
  cases h
end
theorem acE(r: ∀k e,H k=some e->cy β w X k e)(x: ∀b,X1 b->X b): ∀{l a:List V} {m:List df} {us:List Value},(∀k,k∈oj H l-> ∀b,At β k b-> ¬X1 b)->
  oG H l=some (a,m)->cc m->dh β w X l us->dh gE w X1 a us:=fun {l a m us} y h n q=>by obtain⟨z,A⟩:=wF r x l y h n;exact EN (by rw[z];exact q.e6.1) λi c u o p=>A (λi=>us[i]?) (λi c u o p=>q.e6.2 i c u o p) i c u o p
end
theorem aaB{C:dE}(xq:C.P=K.P)(jD:C.G=K.G){c:Operand}{i:Array Operand}{x:Array TypeId}{l:List V}{H:Nat->Option E}{T:List ch}{U:List df}(cn:jA K.nt d=true)(hH: ∀k e,H k=some e->s.H k=some e)
  (L:l=s.get c::i.toList.map s.get) (h:Hf C d H l T=some (e,U,F)) (R:cc U):dL K ⟨d,.call {callee:= .value c,args:=i,argTypes:=x},ty,pos,af,g⟩ s (e.app s):=by
 unfold Hf at h;split at h
 ·rename_i f m args;split at h
  ·rename_i r T;split at h
   ·rename_i ys aiV n W;cases h;rw[n0];obtain⟨ya,⟨y,o⟩,_⟩:=cc.app R;rw[xq] at y o;rw[jD] at o;simp only[List.cons.injEq] at L;obtain⟨Y,h1,h2,h3⟩:=y;intro β a w next Q q j
    have t:Y.name≠ "runtime.NumGoroutine" :=by simpa using h2
    have v:Y.body≠none:=by intro e;simp[e] at h3
    obtain⟨us,I,M⟩:=(L.1.symm▸q.get c).HV;have z:(execOp a.eval ⟨d,.call {callee:= .value c,args:=i,argTypes:=x},ty,pos,af,g⟩).run K.P w= .ok (.enter f (i.map a.eval++us)) w:=by
     simp[execOp,resolve,Deferred.ofValue,I,invoke,callFunc,h1,t,v]
    unfold Oper.wp;rw[z,Oper.upon_enter];have A:dh β w (own K β s.H) (args++m) (i.toList.map a.eval++us.toList):=by rw[L.2];exact(q.nJ i.toList).app M
    let X1:Nat->Prop:=λb=>own K β s.H b/\ ∀k,k∈oj H (args++m)-> ¬At β k b;have p:=acE (X1:=X1) (λk e N=>(q.heap k e (hH k e N)).2) (λb n=>n.1) (λk j b n hx=>hx.2 k j n) n ya A;have B:=o w X1 _ q.BA (λb n=>q.Jf b n.1) p;have N:(List.map a.eval i.toList++us.toList).toArray=i.map a.eval++us:=by rw[<-vr,<-Array.toList_append]
    rw[N] at B;refine B.mono ?_;rintro e w' ⟨u,rfl,D,hu⟩;exact j β _ w' ((q.grow D).put d (gC cn) (Nl W hu))
   cases h
  cases h
 cases h
theorem aby{C:dE}(N:C.P=K.P)(T:C.G=K.G){c:Operand}{D:Array Operand}{q:Array TypeId}{l:List V}{H:Nat->Option E}{t:List df}(U:jA K.nt d=true)
  (Y: ∀k e,H k=some e->s.H k=some e) (hu: ∀k,u k=false->s.u k=false)
  (x:l=s.get c::D.toList.map s.get) (h:Ht C d l H u W=some (e,t,F)) (Q:cc t):dL K ⟨d,.call {callee:= .value c,args:=D,argTypes:=q},ty,pos,af,g⟩ s (e.app s):=by
 unfold Ht at h;split at h
 ·rename_i f z args;split at h
  ·rename_i L a r out W;split at h
   ·rename_i R gq fP aD m;cases h;simp only[List.cons.injEq] at x;simp only[Bool.and_eq_true] at m;obtain⟨⟨n,A⟩,b⟩:=m;have b:=cH b;obtain⟨⟨I,p⟩,_⟩:=Q;rw[N] at I p;rw[T] at p;obtain⟨aH,a2⟩:=wN _ _ fP;obtain⟨i1,i2⟩:=zY _ _ aD;have hx:=ZJ (K:=K) (s:=s) (o:=⟨d,.call {callee:= .value c,args:=D,argTypes:=q},ty,pos,af,g⟩) c L a z rfl x.1.symm I (gC U) (by rw[<-x.2,aH];exact lx _) a2 i1
     (λk e i=>by
      obtain⟨id,h1,h2,h4⟩:=i2 k e i;exact⟨id,h1,Y _ _ h2,h4⟩)
     (zi n) (λid hid=>hu _ (K7 A id hid)) (λ_=>b) p
    have hj:=hx.j;have i:cM.app ⟨m6 d (r.dA (L++a)),(L++a).zip (out.map λe=>some (e.dA (L++a))),(L++a).map λk=>(k,true)⟩ s=(s.after (L++a) out).put d (r.dA (L++a)):=by
     have e1:d4 s.H ((L++a).zip (out.map λe=>some (e.dA (L++a))))=kO s.H (L++a) (λk=>(out[k]?).map (E.dA (L++a))):=by
      have:=K2 (L++a) (zi n) s.H (out.map λe=>some (e.dA (L++a))) (λk=>(out[k]?).map (E.dA (L++a))) (by simpa using b) (λk e i=>by
       rw[er] at i;cases M:out[k]? with
       |none=>rw[M] at i;cases i
       |some y=>rw[M] at i;simp at i;rw[<-i];rfl)
      exact this
     have e2:d4 s.u ((L++a).map λk=>(k,true))=kO s.u (L++a) (λ_=>true):=by
      funext id;by_cases B:id∈L++a
      ·obtain⟨k,hk⟩:=iQ.1 B;rw[nQ (zi n) hk];exact Ll B
      rw[mN B,l3 _ _ _ λv x=>B (by obtain⟨y,hy,e⟩:=et.1 x;cases e;exact hy)]
     unfold cM.app S.after;cases d<;>simp only[m6,d4,S.put,e1,e2]
    grind
   cases h
  cases h
 cases h
theorem Xh{C:dE}(q:dM K.P C.b'){H:Nat->Option E}(r: ∀k e,H k=some e->s.H k=some e)
  (y:s.get x=v) (h:Gv C t H v l=some (e,c,b)) (a:cc c):dL K ⟨none,.call {callee:= .builtin .clear,args:= #[x],argTypes:= #[t]},ty,pos,af,g⟩ s (e.app s):=by
 unfold Gv at h;split at h
 ·cases h
 rename_i i z;split at h
 ·rename_i m n;have A:K.P.underlying t=some (.slice m):=(q _ _ z).hU.2.2.2 m n;split at h
  ·cases h
  rename_i j B;obtain⟨Q,D,_⟩:=q _ _ B;split at h
  ·rename_i o;split at h
   ·rename_i F G;cases h;obtain⟨rfl,rfl,p,⟨L,rfl⟩,_⟩:=a;exact abR x _ _ _ m _ _ _ y (r _ _ F) A D G o p L
   cases h
  cases h
 cases h
theorem Zu{C:dE}(z:dM K.P C.b'){A:TypeId}{H:Nat->Option E}{w:V}{B:List ch}{D:List df}(L: ∀k e,H k=some e->s.H k=some e)(Q:jA K.nt d=true)
  (W:s.get x=v) (f:s.get y=w) (h:GJ C d t H v w B=some (e,D,l)) (n:cc D):dL K ⟨d,.call {callee:= .builtin .copy,args:= #[x,y],argTypes:= #[t,A]},ty,pos,af,g⟩ s (e.app s):=by
 unfold GJ at h;split at h
 ·cases h
 rename_i i u;split at h
 ·rename_i o p;have I:K.P.underlying t=some (.slice o):=(z _ _ u).hU.2.2.2 o p;split at h
  ·cases h
  rename_i j F;obtain⟨qn,M,_⟩:=z _ _ F;split at h
  ·rename_i k gen G q len a R m B N;split at h
   ·rename_i T b r c U Y;cases h;obtain⟨rfl,rfl,rfl,rfl,bO,⟨b9,rfl⟩,_⟩:=n;have F:=acZ (K:=K) (s:=s) (d:=d) (ty:=ty) (pos:=pos) (af:=af) (g:=g) (gen:=b) (size:=j.size) x y k q len o T A c a (gC Q) W (by rw[f,<-N];exact tm w) (L _ _ U) I M (by simpa[Nat.blt_eq] using Y) bO b9
    have: ∀v e,cM.app ⟨m6 d v,[(k,some e)],[]⟩ s=({s with H:=aQ s.H k (some e)}:S).put d v:=by intro v e;cases d<;>rfl
    grind
   cases h
  cases h
 cases h
theorem ac9{C:dE}(q:dM K.P C.b')(I:C.P=K.P)(T:C.G=K.G)(cu:C.nt=K.nt)(U:C.c6=K.c6){l:List V}{H:Nat->Option E}{R:List df}
  (a:l=o.op.operands.toList.map s.get) (B: ∀k e,H k=some e->s.H k=some e) (L: ∀k,u k=false->s.u k=false) (h:HP C o l H u M=some (e,R,Q)) (b:cc R):dL K o s (e.app s):=by
 obtain⟨d,W,ty,pos,af,g⟩:=o;unfold HP at h;dsimp only at h;split at h
 ·cases h
 rename_i p;rw[cu] at p;have D: ∀{W:Op} {r:iz},l=W.operands.toList.map s.get->(match xk C.P C.b' H W l M with|some (v,R,M)=>some ((⟨m6 d v,[],[]⟩:cM),R,M)|none=>none)=some (e,R,Q)->dL K ⟨d,W,ty,pos,af,g⟩ s (e.app s):=by
  intro W r a h;split at h
  ·rename_i v aiU ait m;cases h;rw[n0];rw[I] at m;exact VG (vals:=l) (gC p) (e8.of_eq a.symm) ((ac8 q m b).sub B)
  cases h
 split at h
 ·split at h
  ·simp only[Op.operands,List.map_cons,List.map_nil,List.cons.injEq,and_true] at a;split at h
   ·exact Zy p a.symm h
   exact aaA L p a.symm h
  cases h
 ·split at h
  ·rename_i i aD;exact Xj q aD L p h
  cases h
 ·split at h
  ·simp only[Op.operands,List.map_cons,List.map_nil,List.cons.injEq,and_true] at a;split at h
   ·rename_i m;cases h;exact Xc q rfl B a.1.symm a.2.symm m b
   exact Wq q B a.1.symm a.2.symm h b
  cases h
 ·split at h
  ·simp only[Op.operands,List.map_cons,List.map_nil,List.cons.injEq,and_true] at a;exact Yh q L p a.1.symm a.2.symm h b
  cases h
 ·split at h
  ·rename_i m;cases h;exact aaS q L p (by simpa[Op.operands] using a) m b
  exact Yi q L p (by simpa[Op.operands] using a) h
 ·rename_i c;obtain⟨N,args,F⟩:=c;dsimp only at h;split at h
  ·rename_i f;split at h
   ·exact aby I T p B L (by simpa[Op.operands,Call.operands] using a) h b
   split at h
   ·exact aaB I T p B (by simpa[Op.operands,Call.operands] using a) h b
   exact Zx I T p (by simpa[Op.operands,Call.operands] using a) h b
  ·split at h
   ·rename_i x y t Y v w j z;have A:args= #[x,y]:=by rw[<-j]
    have n:F= #[t,Y]:=by rw[<-z]
    subst A;subst n;simp only[Op.operands,Call.operands] at a;simp at a;split at h
    ·rename_i m;cases h;exact Ws q U B p a.1.symm a.2.symm m b
    exact U5 q B p a.1.symm a.2.symm h b
   cases h
  ·split at h
   ·rename_i x t v j z;have A:args= #[x]:=by rw[<-j]
    have n:F= #[t]:=by rw[<-z]
    subst A;subst n;simp only[Op.operands,Call.operands] at a;simp at a;exact Xh q B a.symm h b
   cases h
  ·split at h
   ·rename_i x y t Y v w j z;have A:args= #[x,y]:=by rw[<-j]
    have n:F= #[t,Y]:=by rw[<-z]
    subst A;subst n;simp only[Op.operands,Call.operands] at a;simp at a;exact Zu q B p a.1.symm a.2.symm h b
   cases h
  ·exact D (r:=none) a h
  cases h
 exact D (r:=none) a h
def agw:V->List Nat
 | .ref id _=>[id]
 | .a7 id _ _ _ _=>[id]
 | .ct id _ _ _ _=>[id]
 |_=>[]
def Hs:List V->List Nat
 | []=>[]
 |v::a=>agw v++Hs a
def QH:List ch->List Nat
 | .nat k::a=>k::QH a
 |_=>[]
def agv:List ch->List Nat
 | .b true::c=>QH c
 | .nat k::_=>[k]
 | .int _:: .nat k::_=>[k]
 | .dy L a _ _::_=>L++a
 | .lt k _ _::_=>[k]
 |_=>[]
def hY(k:Nat):List Nat->Bool
 | []=>false
 |x::l=>bif Nat.beq x k then true else hY k l
theorem zT{k:Nat}: ∀{l:List Nat},hY k l=true->k∈l
 | [],h=>by cases h
 |x::l,h=>by
  simp only[hY] at h;cases a:Nat.beq x k with
  |true=>rw[cH a];exact eH
  |false=>rw[a] at h;exact eu _ (zT h)
def tE(a:List Nat)(H:Nat->Option E):Nat->Option E:=λk=>bif hY k a then H k else none
def tD(a:List Nat)(u:Nat->Bool):Nat->Bool:=λk=>bif hY k a then u k else true
theorem Xn{H:Nat->Option E}{e:E}(h:tE r H k=some e):H k=some e:=by
 unfold tE at h
 grind
theorem VE(h:tD r u k=false):u k=false:=by
 unfold tD at h
 grind
def adu:Op->List V->Bool
 | .nilCheck _,[.ct _ _ _ _ _]=>false
 | .move _,_| .assign _,_| .pick _ _ _,_| .nilCheck _,_| .binOp _ _ _ _ _,_| .unOp _ _ _,_| .convert _ _ _,_| .makeFunc _ _ _,_| .extract _ _,_| .field _ _ _,_| .build _ _,_=>true
 | .fieldAddr _ _ _,[.ref _ _]=>true
 |_,_=>false
def adN:Op->Bool
 | .load _ _| .slice _ _ _ _ _| .fieldAddr _ _ _| .indexAddr _ _ _| .index _ _ _| .nilCheck _=>true
 | .call c=>match c.callee with
  | .builtin .len=>true
  | .builtin .max=>true
  | .builtin .min=>true
  |_=>false
 |_=>false
def uE(o:Oper)(a:List V)(b:List ch):List Nat:=match adu o.op a with
 |true=>[]
 |false=>match adN o.op with
  |true=>Hs a
  |false=>Hs a++agv b
def p1(C:dE)(o:Oper)(a:List V)(s:S)(b:List ch):iz:=HP C o a (tE (uE o a b) s.H) (tD (uE o a b) s.u) b
def IU:Bool->Bool->Bool
 |true,true=>true
 |false,false=>true
 |_,_=>false
def ug(a:Array Oper)(j:Nat)(s:S):Option V:=match (a[j]?).bind (·.dst) with
 |some t=>some (s.t t)
 |none=>none
def rL(C:dE)(h:Array Oper)(o:Oper)(a:List ch)(s:S):iz:=
 match o.guard with
 |none=>p1 C o (o.op.operands.toList.map s.get) s a
 |some (j,c)=>match ug h j s with
  |some (.bJ [])=>match jA C.nt o.dst with
   |true=>some (⟨m6 o.dst (.bJ []),[],[]⟩,[],a)
   |false=>none
  |some (.t (.bool b))=>match a with
   | .b w::a=>match IU w c with
    |true=>match p1 C o (o.op.operands.toList.map s.get) s a with
     |some (e,i,a)=>some (e,.p (b=w)::i,a)
     |none=>none
    |false=>match jA C.nt o.dst with
     |true=>some (⟨m6 o.dst (.bJ []),[],[]⟩,[.p (b=w)],a)
     |false=>none
   |_=>none
  |_=>none
end
structure dE.Fits (C:dE) (K:Ctx):Prop where
 T:dM K.P C.b'
 P:C.P=K.P
 G:C.G=K.G
 nt:C.nt=K.nt
 c6:C.c6=K.c6
 hA:C.hA=K.hA
section
variable {K:Ctx}{s:S}{C:dE}
theorem OY(a:C.Fits K)(h:p1 C o (o.op.operands.toList.map s.get) s i=some (e,c,b))(k:cc c):dL K o s (e.app s):=
 ac9 a.T a.P a.G a.nt a.c6 rfl (λ_ _ h=>Xn h) (λ_ h=>VE h) h k
theorem ZS{w v:Bool}(h:IU w v=true):w=v:=by cases w<;>cases v<;>first|rfl|cases h
theorem Yr{w v:Bool}(h:IU w v=false):w= !v:=by cases w<;>cases v<;>first|rfl|cases h
theorem NQ{b:Array Oper}{j:Nat}(h:ug b j s=some v): ∃t,(b[j]?).bind (·.dst)=some t/\s.t t=v:=by
 unfold ug at h
 grind
theorem OW(q:C.Fits K){c:Array Oper}(h:rL C c o l s=some (e,m,i))(a:cc m):hD K c o s (e.app s):=by
 unfold rL at h;split at h
 ·rename_i n;exact hD.of n (OY q h a)
 rename_i j A n;split at h
 ·rename_i k;obtain⟨t,r,x⟩:=NQ k;split at h
  ·rename_i y;cases h;rw[n0];exact hD.skip n r x (gC (q.nt▸y))
  cases h
 ·rename_i b k;obtain⟨t,r,x⟩:=NQ k;split at h
  ·rename_i w l;split at h
   ·rename_i hw;have hw:=ZS hw;subst hw;split at h
    ·rename_i F B D z;cases h;obtain⟨rfl,p⟩:=a;exact hD.gq n r x (OY q z p)
    cases h
   rename_i hw;have hw:=Yr hw;subst hw;split at h
   ·rename_i y;cases h;obtain⟨rfl,_⟩:=a;rw[n0];exact hD.out n r x (gC (q.nt▸y))
   cases h
  cases h
 cases h
theorem ade{b:Array Oper}{l:List Oper}{c:S}{Q:S->Prop}(h:hD K b o s c)(m:pR K b l c Q):pR K b (o::l) s Q:=
 λβ a w e n p=>h β a w (wpList K.P b e l) e n λi q r k=>m i q r e k p
end
end Go.Lift
