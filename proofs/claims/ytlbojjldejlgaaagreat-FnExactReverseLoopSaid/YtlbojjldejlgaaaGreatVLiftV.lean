/- Tools. -/
import Derived.Test.YtlbojjldejlgaaaGreatVLiftTV
namespace Go.Lift
open Go
section
variable {P:Program}{bQ:List (Nat×bM)}{H:Nat->Option E}{d:Option Tmp}{ty:TypeId}{pos:String}{af:Array Edge}{g:Option (Nat×Bool)}
variable {t:TypeId}{u:TypeDesc}{z:Value}{size bytes:Nat}
theorem uL(a:BinOp)(c:Gk a=true)(x y:Operand)(t e:TypeId)(k:IntKind)(m n:Int):bK P H ⟨d,.binOp a t x y e,ty,pos,af,g⟩ [.t (.int k m),.t (.int k n)] (.t (.int k (bits a k m n))):=by
 intro h w X i _ b;refine⟨Value.int k (bits a k m n),?_,.t _ _ (.int k _)⟩;cases a<;>simp[Gk] at c<;>
  simp[execOp,cY b.1,cY b.2.1,eqGuard,binOp,intBits_and,intBits_or,intBits_xor,intBits_andNot]
theorem SE(x y:Operand)(t b:TypeId)(m n:List UInt8):bK P H ⟨d,.binOp .lss t x y b,ty,pos,af,g⟩ [.t (.str m),.t (.str n)] (.t (.bool (Op.bytesLess m n))):=by intro c w X e _ a;refine⟨.bool (Op.bytesLess m n),?_,.t _ _ (.bool _)⟩;simp[execOp,fD a.1,fD a.2.1,eqGuard,binOp,Op.stringOp]
theorem SG(x y:Operand)(t b:TypeId)(m n:List UInt8):bK P H ⟨d,.binOp .gtr t x y b,ty,pos,af,g⟩ [.t (.str m),.t (.str n)] (.t (.bool (!Op.bytesLess m n&& !m==n))):=by intro c w X e _ a;refine⟨.bool (!Op.bytesLess m n&& !m==n),?_,.t _ _ (.bool _)⟩;simp[execOp,fD a.1,fD a.2.1,eqGuard,binOp,Op.stringOp]
theorem SF(x y:Operand)(t b:TypeId)(m n:List UInt8):bK P H ⟨d,.binOp .leq t x y b,ty,pos,af,g⟩ [.t (.str m),.t (.str n)] (.t (.bool (Op.bytesLess m n||m==n))):=by intro c w X e _ a;refine⟨.bool (Op.bytesLess m n||m==n),?_,.t _ _ (.bool _)⟩;simp[execOp,fD a.1,fD a.2.1,eqGuard,binOp,Op.stringOp]
theorem S5(x:Operand)(t:TypeId)(k:IntKind)(n:Int):bK P H ⟨d,.unOp .neg t x,ty,pos,af,g⟩ [.t (.int k n)] (.t (.int k (k.wrap (0-n)))):=by intro b w X c _ a;refine⟨.int k (k.wrap (0-n)),?_,.t _ _ (.int _ _)⟩;simp[execOp,cY a.1,Op.unary,Op.intArith]
theorem Me(x:Operand)(f:FuncId)(a:List V):bK P H ⟨d,.nilCheck x,ty,pos,af,g⟩ [.fn f a] (.fn f a):=by intro e w X b _ h;have c:aS e w X (.fn f a) (b x):=h.1;refine⟨b x,?_,c⟩;generalize i:b x=y at c;cases c with|fn=>simp[execOp,i]
variable {a v:V}{x y:Operand}{e l:TypeId}{k n i b o p:List bV}{m c q:List cR}{W:Map}{w:World}{X:Nat->Prop}
theorem QG{a:BinOp}{t:TypeId}{k:IntKind}{m n:Int}(h:Ag a k m n i=some (v,c,b))(l:bS c):
  bK P H ⟨d,.binOp a t x y e,ty,pos,af,g⟩ [.t (.int k m),.t (.int k n)] v:=by
 cases a<;>simp only[Ag,Gr,Option.some.injEq,Prod.mk.injEq,reduceCtorEq] at h<;>obtain⟨rfl,rfl,rfl⟩:=h
 ·exact Te _ _ _ _ _ _ _
 ·exact SZ _ _ _ _ _ _ _
 ·exact S6 _ _ _ _ _ _ _
 ·exact S2 _ _ _ _ _ _ _ l.1
 ·exact S1 _ _ _ _ _ _ _ l.1
 ·exact uL .and rfl _ _ _ _ _ _ _
 ·exact uL .or rfl _ _ _ _ _ _ _
 ·exact uL .xor rfl _ _ _ _ _ _ _
 ·exact uL .andNot rfl _ _ _ _ _ _ _
 ·exact Tc _ _ _ _ _ _ _
 ·exact S4 _ _ _ _ _ _ _
 ·exact S9 _ _ _ _ _ _ _
 ·exact S' _ _ _ _ _ _ _
 ·exact Ta _ _ _ _ _ _ _
 exact Tb _ _ _ _ _ _ _
theorem PU{a:BinOp}{t:TypeId}{m n:List UInt8}(h:z1 a m n i=some (v,c,b))(k:bS c):
  bK P H ⟨d,.binOp a t x y e,ty,pos,af,g⟩ [.t (.str m),.t (.str n)] v:=by
 unfold z1 at h;split at h<;>cases h
 ·obtain⟨l,rfl⟩:=Qx k.1;exact Td _ _ _ _ _ _ l
 ·exact SI _ _ _ _ _ _
 ·exact SD _ _ _ _ _ _
 ·exact SH _ _ _ _ _ _
 ·exact SE _ _ _ _ _ _
 ·exact SG _ _ _ _ _ _
 exact SF _ _ _ _ _ _
theorem DT(a:dm P bQ)(h:zs (cT bQ t)=true):P.underlying t=some .bool:=by
 unfold zs at h;split at h
 ·rename_i i b;split at h
  ·rename_i c;exact(a _ _ b).gu.1 c
  cases h
 cases h
theorem yt(a:dm P bQ)(h:rN (cT bQ t)=true):P.underlying t=some .string:=by
 unfold rN at h;split at h
 ·rename_i i b;split at h
  ·rename_i c;exact(a _ _ b).gu.2.2.1 c
  cases h
 cases h
theorem xN(a:dm P bQ)(h:rV (cT bQ t)=true): ∃e,P.underlying t=some (.slice e):=by
 unfold rV at h;split at h
 ·rename_i i b;split at h
  ·rename_i e c;exact⟨e,(a _ _ b).gu.2.2.2 e c⟩
  cases h
 cases h
theorem q0{u:Value}(h:aS W w X (.t .eO) u):u= .nilIface:=by cases h with|t _ _ h=>cases h with|eO=>rfl
theorem Fm{u:Value}(h:aS W w X (.t .err) u): ∃t v,u= .iface t v:=by cases h with|t _ _ h=>cases h with|err t v=>exact⟨t,v,rfl⟩
theorem Kf(w:World)(n:Nat){ms}(a:TypeId)(b:Value)(c:P.underlying t=some (.interface ms)):(Op.equalIn (n+1) t (.iface a b) .nilIface).run P w= .ok false w:=by simp[Op.equalIn,run_underlying c]
theorem J8(w:World)(n:Nat){ms}(a:P.underlying t=some (.interface ms)):(Op.equalIn (n+1) t .nilIface .nilIface).run P w= .ok true w:=by simp[Op.equalIn,run_underlying a]
theorem D1(w:World){ms}(a:TypeId)(b:Value)(c:P.underlying t=some (.interface ms)):(Op.equal t (.iface a b) .nilIface).run P w= .ok false w:=Kf w 9999 a b c
theorem DC(w:World){ms}(a:P.underlying t=some (.interface ms)):(Op.equal t .nilIface .nilIface).run P w= .ok true w:=J8 w 9999 a
theorem NC(a b):binOp .eql t (.iface a b) .nilIface=(do pure (.bool (<-Op.equal t (.iface a b) .nilIface))):=rfl
theorem NB(a b):binOp .neq t (.iface a b) .nilIface=(do pure (.bool (!(<-Op.equal t (.iface a b) .nilIface)))):=rfl
theorem NA:binOp .eql t .nilIface .nilIface=(do pure (.bool (<-Op.equal t .nilIface .nilIface))):=rfl
theorem N5:binOp .neq t .nilIface .nilIface=(do pure (.bool (!(<-Op.equal t .nilIface .nilIface)))):=rfl
theorem D2(w:World)(o:BinOp)(x y:Operand)(a:(l6 x||l6 y)=true):(eqGuard o t x y .nilIface .nilIface).run P w= .ok () w:=by cases x<;>cases y<;>simp[l6] at a<;>simp[eqGuard]<;>split<;>simp
theorem SN(x y:Operand)(e:TypeId){ms}(h:P.underlying t=some (.interface ms)):bK P H ⟨d,.binOp .eql t x y e,ty,pos,af,g⟩ [.t .err,.t .eO] (.t (.bool false)):=by intro k w X l _ c;obtain⟨a,b,i⟩:=Fm c.1;refine⟨.bool false,?_,.t _ _ (.bool _)⟩;simp[execOp,i,q0 c.2.1,eqGuard,NC,D1 w a b h]
theorem SM(x y:Operand)(e:TypeId){ms}(h:P.underlying t=some (.interface ms)):bK P H ⟨d,.binOp .neq t x y e,ty,pos,af,g⟩ [.t .err,.t .eO] (.t (.bool true)):=by intro k w X l _ c;obtain⟨a,b,i⟩:=Fm c.1;refine⟨.bool true,?_,.t _ _ (.bool _)⟩;simp[execOp,i,q0 c.2.1,eqGuard,NB,D1 w a b h]
theorem SK(x y:Operand)(b:TypeId){ms}(c:P.underlying t=some (.interface ms))(e:(l6 x||l6 y)=true):bK P H ⟨d,.binOp .eql t x y b,ty,pos,af,g⟩ [.t .eO,.t .eO] (.t (.bool true)):=by intro h w X i _ a;refine⟨.bool true,?_,.t _ _ (.bool _)⟩;simp[execOp,q0 a.1,q0 a.2.1,D2 w _ x y e,NA,DC w c]
theorem SJ(x y:Operand)(b:TypeId){ms}(c:P.underlying t=some (.interface ms))(e:(l6 x||l6 y)=true):bK P H ⟨d,.binOp .neq t x y b,ty,pos,af,g⟩ [.t .eO,.t .eO] (.t (.bool false)):=by intro h w X i _ a;refine⟨.bool false,?_,.t _ _ (.bool _)⟩;simp[execOp,q0 a.1,q0 a.2.1,D2 w _ x y e,N5,DC w c]
theorem tX{a:List (Nat×bM)}(c:dm P a)(h:z8 (cT a t)=true): ∃ms,P.underlying t=some (.interface ms):=by
 unfold z8 at h;split at h
 ·rename_i i e;split at h
  ·rename_i k;obtain⟨u,l,b⟩:=c _ _ e;simp only[bM.is,k] at b;obtain⟨m,rfl⟩:=b;exact⟨m,l.1⟩
  cases h
 cases h
theorem QH{c:List (Nat×bM)}(q:dm P c){e:BinOp}{b:V}(h:Ah c e t x y a b k=some (v,m,i)):
  bK P H ⟨d,.binOp e t x y l,ty,pos,af,g⟩ [a,b] v:=by
 unfold Ah at h;split at h
 ·rename_i n p;obtain⟨ms,o⟩:=tX q n;cases h;exact SN _ _ _ o
 ·rename_i n p;obtain⟨ms,o⟩:=tX q n;cases h;exact SM _ _ _ o
 ·rename_i n p;obtain⟨ms,o⟩:=tX q n;cases h;exact SK _ _ _ o p
 ·rename_i n p;obtain⟨ms,o⟩:=tX q n;cases h;exact SJ _ _ _ o p
 cases h
theorem Kr(w:World)(n:Nat){e}(a:Addr)(l c:Nat)(b:P.underlying t=some (.slice e)):(Op.equalIn (n+1) t (.slice (some a) l c) (.slice none 0 0)).run P w= .ok false w:=by simp[Op.equalIn,run_underlying b]
theorem QP(w:World){e}(a:Addr)(l c:Nat)(b:P.underlying t=some (.slice e)):(Op.equal t (.slice (some a) l c) (.slice none 0 0)).run P w= .ok false w:=Kr w 9999 a l c b
theorem Qy(a:Addr)(l c:Nat):binOp .eql t (.slice (some a) l c) (.slice none 0 0)=(do pure (.bool (<-Op.equal t (.slice (some a) l c) (.slice none 0 0)))):=rfl
theorem Qu(x y:Operand)(n:TypeId)(i:List (List T)){e}(o:P.underlying t=some (.slice e))(p:i≠[]):bK P H ⟨d,.binOp .eql t x y n,ty,pos,af,g⟩ [.t (.aa i),.t .en] (.t (.bool false)):=by
 intro B w X k _ m;obtain⟨a,l,c,q⟩: ∃a l c,k x= .slice (some a) l c:=by
  cases m.1 with|t _ _ h=>
  generalize r:k x=u at h;cases h with
  |eH=>exact a7 rfl p
  |aa _ b s size v f=>exact⟨_,_,_,rfl⟩
 have A:k y= .slice none 0 0:=by
  cases m.2.1 with|t _ _ h=>
  generalize r:k y=u at h;cases h;rfl
 refine⟨.bool false,?_,.t _ _ (.bool _)⟩;simp[execOp,q,A,eqGuard,Qy,QP w a l c o]
theorem PV{c:List (Nat×bM)}(p:dm P c){k:BinOp}{b:V}(h:z6 c k t a b n=some (v,m,i))(o:bS m):
  bK P H ⟨d,.binOp k t x y l,ty,pos,af,g⟩ [a,b] v:=by
 unfold z6 at h;split at h
 ·rename_i q;obtain⟨e,r⟩:=xN p q;cases h;exact Qu _ _ _ _ r o.1
 cases h
theorem Mh(x y:Operand)(e n c a k:Nat){u:TypeDesc}{z:Value}{i L:Nat}(l:P.underlying t=some (.array n e))(m:bL P e u z i L)(q:k<n):
  bK P H ⟨d,.indexAddr t x y,ty,pos,af,g⟩ [.ref c a,.t (.int .i64 (k:Int))] (.ref c (a+k*i)):=by
 intro r w X s v h;have cn:=cY h.2.1;obtain⟨b,o,p⟩:=o4 h.1;refine⟨.pointer (some ⟨b,a+k*i,none⟩),?_,.ref _ _ _ o⟩;simp[execOp,p,cn,Instr.indexAt,asIntOf,run_underlying l,m.run_sizeOf,gQ,Instr.sureAddr]
 grind
theorem QN(A:dm P bQ){e:BinOp}{t:TypeId}{b:V}(h:Al P bQ e t a b i=some (v,c,k))(m:bS c):
  bK P H ⟨d,.binOp e t x y l,ty,pos,af,g⟩ [a,b] v:=by
 unfold Al at h;split at h
 ·split at h
  ·rename_i B;subst B;exact QG h m
  cases h
 ·exact PU h m
 ·split at h
  ·rename_i n;cases h;exact SP _ _ _ _ _ (DT A n)
  ·rename_i n;cases h;exact SO _ _ _ _ _ (DT A n)
  cases h
 ·split at h
  ·rename_i ms o b i p q;cases h;obtain⟨r,s,w,_⟩:=m;rw[tr p,tr q,<-w];exact PK _ _ _ _ ms o r aV (by simp[s])
  ·rename_i ms o b i p q;cases h;obtain⟨r,s,w,_⟩:=m;rw[tr p,tr q,<-w];exact PI _ _ _ _ ms o r aV (by simp[s])
  cases h
 cases h
theorem R0{c:UnOp}(h:Aq c a i=some (v,m,b)):
  bK P H ⟨d,.unOp c t x,ty,pos,af,g⟩ [a] v:=by
 unfold Aq at h;split at h<;>cases h
 ·exact S3 _ _ _
 exact S5 _ _ _ _
theorem ML(c:dm P bQ){i:bM}(k:cT bQ t=some i)(h:yX bQ (some i)=true): ∃e,P.underlying t=some (.slice e)/\P.underlying e=some (.int .u8):=by
 unfold yX at h;split at h
 ·rename_i n a;cases a;split at h
  ·rename_i e l;split at h
   ·rename_i j m;split at h
    ·rename_i b;exact⟨e,(c _ _ k).gu.2.2.2 e l,(c _ _ m).gu.2.1 _ b⟩
    cases h
   cases h
  cases h
 cases h
theorem OM(w:dm P bQ){c b:TypeId}(h:zQ bQ c b a o=some (v,q,p))(r:bS q):
  bK P H ⟨d,.convert c b x,ty,pos,af,g⟩ [a] v:=by
 unfold zQ at h;split at h
 ·rename_i i j C D;split at h
  ·rename_i G k n m o y;cases h;obtain⟨F,s,_⟩:=w _ _ C;have A:G.wrap n=m:=r.1;rw[<-A];exact FQ _ _ _ _ _ F _ s.1 ((w _ _ D).gu.2.1 _ y)
  ·rename_i k n m o y;cases h;have A:UInt8.ofInt n=m:=r.1;rw[<-A];obtain⟨F,s,_⟩:=w _ _ C
   have:=FQ (P:=P) (H:=H) (d:=d) (ty:=ty) (pos:=pos) (af:=af) (g:=g) x c b k .u8 F n s.1 ((w _ _ D).gu.2.1 _ y);rw[Rp] at this;exact this
  ·rename_i B l o y;split at h
   ·rename_i K;cases h;have A:B=l.map l9:=r.1;obtain⟨e,L,Q⟩:=ML w C K;rw[A];exact Mj _ _ _ _ _ L Q ((w _ _ D).gu.2.2.1 y)
   cases h
  cases h
 cases h
theorem Lt(x:Operand)(r gen i a:Nat)(s:TypeId)(sz:Nat)(k:List (List T))(e:List T)(L:bL P t u z size bytes)(Q:iB u=true)(D:H r=some (.arr s gen sz k))(o:k[i]? =some e)(V:a+size<=e.length):
  bK P H ⟨d,.load t x,ty,pos,af,g⟩ [.cd r gen sz i a] (.agg (((e.drop a).take size).map .t)):=by
 intro Y w X ρ F R;obtain⟨q,G⟩:=hq (F r _ D);obtain⟨b,y,W⟩:=lh R.1 G;subst y;have aQ:=G;rcases(F r _ D).2 with ⟨A,B⟩|⟨e4,C,A,B,h3,f,I⟩
 ·rw[B] at o;simp at o
 rw[aQ] at A;cases A;have M:i<k.length:=(bt.1 o).1;have N:e.length=sz:=f e (bA o);have p: ∀j,j<size->i*sz+a+j<C.size:=by
  intro j n
  have:(i+1)*sz<=k.length*sz:=dq _ M;rw[dM] at this;omega
 have l: ∀j,j<size->w.cell? ⟨b,i*sz+a+j,none⟩=some (C.getD (i*sz+a+j) undef):=λj n=>by
  have:=p j n;simp[World.cell?,B,this]
 refine⟨_,by simp[execOp,W,Instr.loadAt,Instr.sureAddr,L.wU w Q l];rfl,?_⟩;refine .agg _ _ b1 λj c v h K=>?_;have n:j<size:=by
  have:=(bt.1 h).1;simp at this;omega
 rw[dT,List.getElem?_take_of_lt n,ga] at h;simp only[List.getElem?_toArray,List.getElem?_map,List.getElem?_range n,Option.map_some,Option.some.injEq] at K;cases m:e[a+j]? with
 |none=>rw[m] at h;simp at h
 |some S=>
  rw[m] at h;simp at h;rw[<-h]
  have:=p j n;have U:=I i (a+j) e S C[i*sz+a+j] o m (by rw[<-nG];simp[this]);rw[<-K];simp only[Array.getElem?_eq_getElem this,Option.getD_some];exact .t _ _ U
theorem D0(F:dm P bQ)(h:pC bQ H t a b=some (v,m,n))(s:bS m):
  bK P H ⟨d,.load t x,ty,pos,af,g⟩ [a] v:=by
 unfold pC at h;split at h
 ·cases h
 rename_i i G;obtain⟨K,p,e⟩:=(F _ _ G).agg;split at h
 ·rename_i id A;split at h
  ·rename_i cs q;split at h
   ·rename_i l;split at h
    ·rename_i o;cases h;exact Rm _ _ _ _ p (e.trans l) q o
    cases h
   rename_i l;split at h
   ·rename_i c B;cases h;exact Rn _ _ _ _ _ p (e.trans l) q B
   cases h
  cases h
 ·rename_i cs;split at h
  ·rename_i l;split at h
   ·rename_i o;cases h;exact Nq _ _ p (e.trans l) (eb o)
   cases h
  rename_i l;split at h
  ·cases h;exact Nr _ _ _ p (e.trans l)
  cases h
 ·rename_i id gen L k A;split at h
  ·rename_i w C y r b q l;split at h
   ·rename_i c B;cases h;obtain⟨rfl,rfl,D,_⟩:=s;exact Lu _ _ _ _ _ _ _ _ _ _ p (e.trans l) q D B
   cases h
  ·rename_i w C y r b q l;split at h
   ·rename_i o;cases h;obtain⟨rfl,rfl,D,_⟩:=s;exact Lt _ _ _ _ _ _ _ _ _ p (e.trans l) q D (eb o)
   cases h
  cases h
 cases h
theorem DA{j:Nat}: ∀{b:List (Nat×Nat×V)},n' j b=none-> ∀i v,(i,j,v)∉b
 | [],_,_,_,h=>by cases h
 |h::b,a,i,v,hm=>by
  simp only[n'] at a;cases c:Nat.beq h.2.1 j with
  |true=>rw[c] at a;cases a
  |false=>
   rw[c] at a;rcases dz.1 hm with rfl|hm
   ·simp at c
   exact DA a i v hm
theorem CC{j:Nat}{x:Nat×V}: ∀{b:List (Nat×Nat×V)},n' j b=some x->(x.1,j,x.2)∈b
 |h::b,a=>by
  simp only[n'] at a;cases c:Nat.beq h.2.1 j with
  |true=>
   rw[c] at a;cases a
   have:=ca c;subst this;exact ep
  |false=>rw[c] at a;exact dU _ (CC a)
theorem tw{Y:List (Nat×Nat×V)}{k:Nat}: ∀{n j:Nat} {l:List (Nat×V)},pr Y j n=some l->bS (nZ k l)->l.length=n/\ ∀i v,(l.map (·.2))[i]? =some v->(k,j+i,v)∈Y
 |0,_,_,h,_=>by cases h;exact⟨rfl,λi v h=>by simp at h⟩
 |n+1,j,l,h,a=>by
  simp only[pr] at h;split at h
  ·rename_i x o c m;cases h;simp only[nZ] at a;obtain⟨e,a⟩:=a;obtain⟨ay,a2⟩:=tw m a;refine⟨by simp[ay],λi v b=>?_⟩;cases i with
   |zero=>
    simp at b;subst b
    have:=CC c;rw[e] at this;exact this
   |succ i=>
    have:=a2 i v (by simpa using b)
    rwa [show j+1+i=j+(i+1) by omega] at this
  cases h
theorem N8(R:dm P bQ){Q W:List bV}{N:List cR}(h:y' bQ H t a Q=some (v,N,W))(n:bS N):
  bK P H ⟨d,.load t x,ty,pos,af,g⟩ [a] v:=by
 unfold y' at h;split at h
 ·rename_i i id gen S k G r Q K;obtain⟨T,w,e⟩:=(R _ _ K).agg;split at h
  ·rename_i y m A b L B;split at h
   ·rename_i s;split at h
    ·rename_i c C D;split at h
     ·rename_i X;cases h;obtain⟨rfl,o,p,_⟩:=n;exact wi _ _ _ _ _ y m _ b L r c _ w (e.trans s) B o p C (.inr ⟨λv=>DA D _ _,X,rfl⟩)
     cases h
    ·rename_i c U Y C D;cases h;obtain⟨rfl,o,p,rfl,_⟩:=n;exact wi _ _ _ _ _ y m _ b _ r c _ w (e.trans s) B o p C (.inl (CC D))
    cases h
   rename_i s;split at h
   ·rename_i l f D;cases h;obtain⟨rfl,o,p,F⟩:=n;obtain⟨I,M⟩:=tw D F;exact JU _ _ _ _ _ y m _ b L r _ w (e.trans s) B o p (eb f) (by simp[I]) M
   cases h
  cases h
 ·rename_i i id gen S k G q r Q K;obtain⟨T,w,e⟩:=(R _ _ K).agg;split at h
  ·rename_i y m A b L B;split at h
   ·rename_i c U cr Y s C F;cases h;obtain⟨rfl,o,p,rfl,rfl,_⟩:=n;exact wi _ _ _ _ _ y m _ b _ r c _ w (e.trans s) B o p C (.inl (bA F))
   ·rename_i s;split at h
    ·rename_i l f D;cases h;obtain⟨rfl,o,p,F⟩:=n;obtain⟨I,M⟩:=tw D F;exact JU _ _ _ _ _ y m _ b L r _ w (e.trans s) B o p (eb f) (by simp[I]) λj v bF=>kl (M j v bF)
    cases h
   cases h
  cases h
 ·rename_i i id gen S k G q r Q K;obtain⟨T,w,e⟩:=(R _ _ K).agg;split at h
  ·rename_i y m A b L B;split at h
   ·rename_i c s C X;cases h;obtain⟨rfl,o,p,F⟩:=n;exact wi _ _ _ _ _ y m _ b _ r c _ w (e.trans s) B o p C (.inr ⟨tV F,X,rfl⟩)
   cases h
  cases h
 cases h
theorem N'(B:dm P bQ){k:Nat}(h:zb bQ H t k a n=some (v,c,b))(q:bS c):
  bK P H ⟨d,.fieldAddr t x k,ty,pos,af,g⟩ [a] v:=by
 unfold zb at h;split at h
 ·cases h
 rename_i i F;split at h
 ·rename_i Q G;obtain⟨r,w,y,_⟩:=(B _ _ F).st G;have s:P.underlying t=some (.struct r):=w.1;split at h
  ·cases h
  rename_i C l;rw[<-y,dT] at l;cases p:r[k]? with
  |none=>rw[mj,p] at l;cases l
  |some K=>
  rw[mj,p] at l;simp only[Option.map_some,Option.some.injEq] at l;subst l;split at h
  ·cases h
  rename_i j L;obtain⟨R,m,_⟩:=B _ _ L;split at h
  ·cases h
  rename_i D;have o:(j.size==0)=false:=by
   rw[beq_eq_false_iff_ne];intro e;rw[e] at D;cases D
  split at h
  ·cases h;exact Mi _ _ _ _ _ _ _ _ _ _ _ s p rfl m o
  ·cases h;exact Nu _ _ _ _ _ _ _ _ _ _ s p rfl m o
  ·split at h
   ·rename_i A;cases h;obtain⟨rfl,rfl,_⟩:=q;exact Lw _ _ _ _ _ _ _ _ _ _ _ _ _ _ s p rfl m o _ _ A
   ·rename_i A;cases h;obtain⟨rfl,_⟩:=q;exact Lx _ _ _ _ _ _ _ _ _ _ _ _ _ _ s p rfl m o _ A rfl
   cases h
  cases h
 cases h
theorem QK(w:dm P bQ){k:Nat}(h:Aj bQ t k a n=some (v,c,b)):
  bK P H ⟨d,.field t x k,ty,pos,af,g⟩ [a] v:=by
 unfold Aj at h;split at h
 ·cases h
 rename_i i A;split at h
 ·rename_i K B;obtain⟨q,l,r,_⟩:=(w _ _ A).st B;split at h
  ·cases h
  rename_i y e;rw[<-r,dT] at e;cases p:q[k]? with
  |none=>rw[mj,p] at e;cases e
  |some C=>
  rw[mj,p] at e;simp only[Option.map_some,Option.some.injEq] at e;subst e;split at h
  ·cases h
  rename_i j D;obtain⟨L,m,o⟩:=(w _ _ D).agg;split at h
  ·split at h
   ·rename_i s;split at h
    ·rename_i F;cases h;exact EG _ _ _ _ _ _ l p m (.inl ⟨o.trans s,F,rfl⟩)
    cases h
   rename_i s;split at h
   ·rename_i G;cases h;exact EG _ _ _ _ _ _ l p m (.inr ⟨o.trans s,G⟩)
   cases h
  cases h
 cases h
theorem jd{n:Int}(h:0<=n):n=((n.toNat:Nat):Int):=O
theorem QI(F:dm P bQ){b:V}(h:Ai bQ H t a b o=some (v,c,p))(q:bS c):
  bK P H ⟨d,.indexAddr t x y,ty,pos,af,g⟩ [a,b] v:=by
 unfold Ai at h;split at h
 ·cases h
 rename_i i f;split at h
 ·rename_i e G;have B:P.underlying t=some (.slice e):=(F _ _ f).gu.2.2.2 e G;split at h
  ·cases h
  rename_i j K;obtain⟨I,C,_⟩:=F _ _ K;split at h
  ·rename_i l n;split at h
   ·rename_i r o;split at h
    ·rename_i w;cases h;obtain⟨L,Q⟩:=o3 (show aH l n=some r from q.1);rw[jd L];exact Nt _ _ _ _ _ _ B C Q (ca w)
    cases h
   cases h
  ·rename_i id gen size A len n;split at h
   ·rename_i s M l R w;cases h;obtain⟨rfl,rfl,⟨L,Q⟩,_⟩:=q;have W:n.toNat<len:=O
    have:=ca w;subst this;have N:=Mg (P:=P) (H:=H) (d:=d) (ty:=ty) (pos:=pos) (af:=af) (g:=g) x y e id s A len n.toNat _ _ R B C W
    grind
   ·rename_i m s l S R w;cases h;obtain⟨rfl,⟨L,Q⟩,_⟩:=q;have W:n.toNat<len:=O
    have:=ca w;subst this;have N:=Lv (P:=P) (H:=H) (d:=d) (ty:=ty) (pos:=pos) (af:=af) (g:=g) x y e id _ A len n.toNat _ R rfl B C W
    grind
   cases h
  cases h
 ·rename_i m e G;obtain⟨T,X,D⟩:=F _ _ f;have B:P.underlying t=some (.array m e):=by
   simp only[bM.is,G] at D;rw[<-D];exact X.1
  split at h
  ·cases h
  rename_i j K;obtain⟨I,C,_⟩:=F _ _ K;split at h
  ·rename_i id A n k o;split at h
   ·rename_i w;cases h;rw[show n=(k:Int) from q.1];exact Mh _ _ _ _ _ _ _ B C (eb w)
   cases h
  cases h
 cases h
theorem N9(o:dm P bQ){b:V}(h:za bQ t a b k=some (v,m,i))(e:bS m):
  bK P H ⟨d,.index t x y,ty,pos,af,g⟩ [a,b] v:=by
 unfold za at h;split at h
 ·rename_i l n c k p;cases h;obtain⟨q,r⟩:=o3 (show aH l n=some c from e.1);rw[jd q];exact PH _ _ _ _ _ (yt o p) r
 cases h
theorem QF(n:dm P bQ)(h:Af bQ H t a i=some (v,c,b))(k:bS c):
  bK P H ⟨d,.call {callee:= .builtin .len,args:= #[x],argTypes:= #[t]},ty,pos,af,g⟩ [a] v:=by
 unfold Af at h;split at h
 ·split at h
  ·rename_i l;cases h;exact OR _ _ (yt n l)
  cases h
 ·split at h
  ·rename_i l;cases h;obtain⟨e,m⟩:=xN n l;have p:=k.1;rw[<-p];exact PJ _ _ _ m
  cases h
 ·split at h
  ·rename_i o l;cases h;obtain⟨rfl,rfl,rfl,_⟩:=k;obtain⟨e,m⟩:=xN n l;exact OS _ _ _ _ _ _ _ m _ _ o
  ·rename_i o l;cases h;obtain⟨rfl,rfl,_⟩:=k;obtain⟨e,m⟩:=xN n l;exact Ns _ _ _ _ _ _ _ m _ o rfl
  cases h
 cases h
theorem N7(F:dm P bQ){s y:Option Operand}{A:List V}{W S:List bV}{jG:List cR}(h:y9 bQ H t s y A W=some (v,jG,S))(n:bS jG):
  bK P H ⟨d,.slice t x s y none,ty,pos,af,g⟩ A v:=by
 unfold y9 at h;split at h
 ·rename_i l I;split at h
  ·rename_i a b r W T c;cases h;obtain⟨k,U,M,rfl⟩:=xP n.1;have p:=yt F T;unfold oa at c;split at c
   ·cases c;rw[jd k,jd (O:0<=b)];exact Mc _ _ _ _ _ _ p O O
   ·cases c
    have:=J7 (P:=P) (H:=H) (d:=d) (ty:=ty) (pos:=pos) (af:=af) (g:=g) x ‹_› l a.toNat p O;rw[<-jd k] at this;simpa using this
   ·cases c
    have:=Ko (P:=P) (H:=H) (d:=d) (ty:=ty) (pos:=pos) (af:=af) (g:=g) x ‹_› l b.toNat p O
    grind
   cases c
  cases h
 ·rename_i B I;split at h
  ·cases h
  rename_i i G;split at h
  ·rename_i e Y;have p:P.underlying t=some (.slice e):=(F _ _ G).gu.2.2.2 e Y;split at h
   ·rename_i j a b r W K c;cases h;obtain⟨f,C,_⟩:=n;obtain⟨k,U,M,rfl⟩:=xP f;obtain⟨mZ,q,_⟩:=F _ _ K;unfold oa at c;split at c
    ·cases c;rw[jd k,jd (O:0<=b)];exact Nl _ _ _ _ _ _ _ p q O O C
    ·cases c
     have:=Kc (P:=P) (H:=H) (d:=d) (ty:=ty) (pos:=pos) (af:=af) (g:=g) x ‹_› e B a.toNat p q O C;rw[<-jd k] at this;simpa using this
    ·cases c
     have:=Lk (P:=P) (H:=H) (d:=d) (ty:=ty) (pos:=pos) (af:=af) (g:=g) x ‹_› e B b.toNat p q O C
     grind
    cases c
   cases h
  cases h
 ·rename_i id XP sz L len I;split at h
  ·rename_i i ji G N;split at h
   ·rename_i e Y;have p:P.underlying t=some (.slice e):=(F _ _ G).gu.2.2.2 e Y;obtain⟨AB,hH,N⟩:=w9.1 N;have Q: ∀{a b:Int},oa s y len I=some (a,b)->0<=a->0<=b-> ∀β w X (D:Operand->Value),cI β w X I (s.toList.map D++y.toList.map D)->mJ len s y D a.toNat b.toNat:=by
     intro a b c f k β w X D C;unfold oa at c;split at c
     ·cases c;refine⟨?_,?_⟩
      ·show D _=_;rw[tP f];exact cY C.1
      show D _=_;rw[tP k];exact cY C.2.1
     ·cases c;refine⟨?_,by show _=_;simp⟩;show D _=_;rw[tP f];exact cY C.1
     ·cases c;refine⟨by show _=_;simp,?_⟩;show D _=_;rw[tP k];exact cY C.1
     cases c
    split at h
    ·rename_i j a b o m W K c;cases h;obtain⟨rfl,rfl,⟨k,U,M,h4,rfl,rfl⟩,_⟩:=n;obtain⟨mZ,q,_⟩:=F _ _ K;exact SC x s y e id _ L len a.toNat b.toNat AB hH N p q O O O (Q c k O)
    ·rename_i j a b W K c;cases h;obtain⟨rfl,⟨k,rfl,M⟩,_⟩:=n;obtain⟨mZ,q,_⟩:=F _ _ K;exact Qt x s y e id _ _ L len a.toNat AB hH N p q O (Q c k k)
    ·rename_i j a b o m W K c;split at h
     ·rename_i R;cases h;obtain⟨rfl,rfl,rfl,⟨f,k,U,M,rfl,rfl⟩,_⟩:=n;obtain⟨mZ,q,_⟩:=F _ _ K;exact Qs x s y e _ id _ L len a.toNat b.toNat _ R p q f O O (Q c k O)
     cases h
    cases h
   cases h
  cases h
 cases h
theorem MQ(A:dm P bQ){l m:Operand}{k:List V}(h:y1 bQ H t k o=some (v,q,n))(p:bS q):
  bK P H ⟨d,.slice t x (some y) (some l) (some m),ty,pos,af,g⟩ k v:=by
 unfold y1 at h;split at h
 ·rename_i id Q R r len a b c;split at h
  ·rename_i i W s w;split at h
   ·rename_i e B;have C:P.underlying t=some (.slice e):=(A _ _ s).gu.2.2.2 e B;obtain⟨D,F,w⟩:=w9.1 w;split at h
    ·rename_i j G;cases h;obtain⟨rfl,⟨K,X,f,I⟩,_⟩:=p;obtain⟨M,L,_⟩:=A _ _ G;rw[jd K,jd (O:0<=b),jd (O:0<=c)];exact PG x y l m e id _ _ r len a.toNat b.toNat c.toNat D F w C L O O O
    cases h
   cases h
  cases h
 cases h
theorem ON(o:dm P bQ){c:Operand}{a:List V}(h:zR bQ t a k=some (v,m,b))(l:bS m):
  bK P H ⟨d,.slice t x none (some c) (some y),ty,pos,af,g⟩ a v:=by
 unfold zR at h;split at h
 ·split at h
  ·rename_i i n;split at h
   ·rename_i e p;have q:P.underlying t=some (.slice e):=(o _ _ n).gu.2.2.2 e p;split at h
    ·rename_i j r;cases h;obtain⟨⟨s,rfl⟩,w,_⟩:=l;obtain⟨C,D,A,rfl⟩:=xP s;obtain⟨F,B,_⟩:=o _ _ r
     have:=Lr (P:=P) (H:=H) (d:=d) (ty:=ty) (pos:=pos) (af:=af) (g:=g) x c y e _ _ q B (Int.toNat_le.2 A) w
     grind
    cases h
   cases h
  cases h
 cases h
theorem LN(o:dm P bQ){b:Builtin}{c:List TypeId}{e:List Operand}{a:List V}(h:yw bQ H b c e a k=some (v,m,i))(l:bS m):
  bK P H ⟨d,.call {callee:= .builtin b,args:=e.toArray,argTypes:=c.toArray},ty,pos,af,g⟩ a v:=by
 unfold yw at h;split at h
 ·exact QF o h l
 ·split at h
  ·rename_i n;subst n;cases h;exact S8 _ _ _ _ _ _
  cases h
 ·split at h
  ·rename_i n;subst n;cases h;exact S7 _ _ _ _ _ _
  cases h
 cases h
theorem PW(h:Ad H a i=some (v,c,b))(e:bS c):bK P H ⟨d,.nilCheck x,ty,pos,af,g⟩ [a] v:=by
 unfold Ad at h;split at h
 ·split at h
  ·rename_i n k;cases h;obtain⟨rfl,_⟩:=e;obtain⟨l,m,k⟩:=w9.1 k;exact Mf _ _ _ _ _ _ l m k
  cases h
 ·cases h;exact Dk _ _ rfl
 ·cases h;exact Dk _ _ rfl
 ·cases h;exact Me _ _ _
 cases h
theorem Ob(o:dm P bQ){b:Array (Nat×Operand)}{a:List V}(h:zd bQ t (b.toList.map (·.1)) a n=some (v,c,k)):
  bK P H ⟨d,.build t b,ty,pos,af,g⟩ a v:=by
 unfold zd at h;split at h
 ·cases h
 rename_i i p;split at h
 ·rename_i x q;split at h
  ·rename_i cs r s w;cases h;obtain⟨e,l,_,m⟩:=(o _ _ p).st q;exact Ro b e i.places a cs l m r (by simpa using s) w
  cases h
 cases h
theorem Tg(n:dm P bQ){e:Op}{a:List V}(h:sc P bQ H e a k=some (v,m,i))(l:bS m):
  bK P H ⟨d,e,ty,pos,af,g⟩ a v:=by
 unfold sc at h;split at h
 ·split at h
  ·cases h;exact SL _ _
  cases h
 ·split at h
  ·cases h;exact PL _ _
  cases h
 ·split at h
  ·rename_i b v w c k;cases h;obtain⟨s,_⟩:=l;subst s;cases b
   ·exact Ls _ _ _ _ _
   exact Md _ _ _ _ _
  cases h
 ·split at h
  ·split at h
   ·rename_i x;cases h;exact D0 n x l
   exact N8 n h l
  cases h
 ·split at h
  ·exact PW h l
  cases h
 ·split at h
  ·split at h
   ·rename_i r p;cases h;exact QN n p l
   split at h
   ·rename_i r p;cases h;exact QH n p
   exact PV n h l
  cases h
 ·split at h
  ·exact R0 h
  cases h
 ·split at h
  ·exact OM n h l
  cases h
 ·rename_i C first q
  split at h
  ·rename_i f y;cases h
   have:first= #[]:=by simpa using y
   subst this;exact Np _ _ _
  cases h
 ·split at h
  ·exact N7 n h l
  split at h
  ·exact MQ n h l
  ·exact ON n h l
  cases h
 ·split at h
  ·exact N' n h l
  cases h
 ·split at h
  ·exact QK n h
  cases h
 ·split at h
  ·exact QI n h l
  cases h
 ·split at h
  ·exact N9 n h l
  cases h
 ·split at h
  ·split at h
   ·rename_i A;cases h;exact OT _ _ _ _ A
   cases h
  cases h
 ·exact Ob n h
 ·rename_i c;obtain⟨o,args,B⟩:=c;dsimp only at h;split at h
  ·have:=LN (d:=d) (ty:=ty) (pos:=pos) (af:=af) (g:=g) n h l;simpa using this
  cases h
 cases h
end
section
def hJ(P:Program)(G:ef)(f:FuncId)(args:List V)(r:V):Prop:=hP P f/\yG P G f args r
def gO(P:Program)(G:ef)(f:FuncId)(a:List E)(args:List V)(r:V)(b:List E):Prop:=
 hP P f/\Dz P G f a args (ι:=Unit) (λ_=>True) (λ_=>r) λ_=>b
def ev(d:Option Tmp)(v:V):List (Nat×V):=match d with
 |some d=>[(d,v)]
 |none=>[]
def hN(a:Nat):Option Tmp->Bool
 |some d=>Nat.blt d a
 |none=>true
theorem fx{K:Ctx}{d:Option Tmp}(h:hN K.nt d=true): ∀i,d=some i->Nat.blt i K.nt=true:=by intro i a;subst a;exact h
def gG:T->T
 | .en=> .aa []
 |x=>x
variable {w:World}{X:Nat->Prop}{m:Nat}
theorem b9.te{x:T}{v:Value}(h:b9 w X x v):b9 w X (gG x) v:=by
 cases h with
 |en=>exact .eH _ _
 |bool b=>exact .bool b
 |int k n=>exact .int k n
 |str l=>exact .str l
 |eH a c=>exact .eH a c
 |aa e b m size c f p q i o r y=>exact .aa e b m size c f p q i o r y
 |gW=>exact .gW
 |eO=>exact .eO
 |jw=>exact .jw
 |err t v=>exact .err t v
theorem QD{W:Map}{k:Nat}{c:TypeId}{gen n:Nat}{z:List T}(h:b4 W w X k (.arr c gen n (List.replicate m z))):b4 W w X k (.arr c gen n (List.replicate m (z.map gG))):=by
 refine⟨h.1,?_⟩;rcases h.2 with ⟨q,l⟩|⟨b,r,q,l,v,C,A⟩
 ·have:m=0:=by simpa using l
  grind
 refine .inr ⟨b,r,q,l,by simpa using v,λo a=>?_,λi j o x u a e B=>?_⟩
 ·obtain⟨D,rfl⟩:=ri.1 a
  grind
 rw[rf] at a;split at a
 ·cases a;rw[dT] at e;cases p:z[j]? with
  |none=>rw[p] at e;simp at e
  |some y=>
   rw[p] at e;simp at e;subst e;exact(A i j z y u (by rw[rf,bn ‹_›]) p B).te
 cases a
def jz(a:Nat):Nat->List T->List (List T)
 |0,_=>[]
 |n+1,l=>l.take a::jz a n (l.drop a)
theorem ue(a:Nat): ∀(n:Nat) (l:List T),l.length=n*a->(jz a n l).length=n/\(∀b,b∈jz a n l->b.length=a)/\(jz a n l).flatten=l
 |0,l,h=>by
  have:l=[]:=by simpa using h
  subst this;exact⟨rfl,λ_ h=>by simp[jz] at h,rfl⟩
 |n+1,l,h=>by
  rw[dM] at h;obtain⟨c,e,i⟩:=ue a n (l.drop a) b1;refine⟨by simp[jz,c],?_,by simp[jz,i]⟩;intro b bH;simp only[jz,List.mem_cons] at bH;rcases bH with rfl|bH
  ·simp;omega
  exact e b bH
structure dc where
 P:Program
 G:ef
 bQ:List (Nat×bM)
 nt:Nat
 cE:Nat
 gd:Map
def pK(a:Nat):List Nat->Nat->Option Nat
 | [],_=>none
 |x::r,k=>bif Nat.beq x a then some k else pK a r (k+1)
theorem tZ{i:Nat}: ∀{L:List Nat} {k m:Nat},pK i L k=some m->k<=m/\L[m-k]? =some i
 | [],_,_,h=>by cases h
 |x::r,k,m,h=>by
  simp only[pK] at h;cases a:Nat.beq x i with
  |true=>rw[a] at h;cases h;rw[ca a];exact⟨cL _,aV⟩
  |false=>
   rw[a] at h;obtain⟨c,b⟩:=tZ (L:=r) (k:=k+1) h;refine⟨O,?_⟩;rw[show m-k=(m-(k+1))+1 by omega];simpa using b
mutual
def pc(L:List Nat):V->Option V
 | .ref id a=>match pK id L 0 with
  |some k=>some (.ref k a)
  |none=>none
 | .aN id gen size a len=>match pK id L 0 with
  |some k=>some (.aN k gen size a len)
  |none=>none
 | .fn f cs=>match pb L cs with
  |some cs=>some (.fn f cs)
  |none=>none
 | .cd id gen size i a=>match pK id L 0 with
  |some k=>some (.cd k gen size i a)
  |none=>none
 | .t x=>some (.t x)
 | .aP x=>some (.aP x)
 | .agg cs=>match pb L cs with
  |some cs=>some (.agg cs)
  |none=>none
 |_=>none
def pb(L:List Nat):List V->Option (List V)
 | []=>some []
 |c::cs=>match pc L c,pb L cs with
  |some c,some cs=>some (c::cs)
  |_,_=>none
end
mutual
theorem Sh{L:List Nat}: ∀(v c:V),pc L v=some c->c.c7 L=v/\c.ok (eg L.length)=true
 | .ref id m,c,h=>by
  simp only[pc] at h;split at h
  ·rename_i k n;cases h;obtain⟨_,a⟩:=tZ n;simp only[Nat.sub_zero] at a;have b:=(bt.1 a).1;exact⟨by simp[V.c7,List.getD_eq_getElem?_getD,a],gP.2 b⟩
  cases h
 | .aN id gen size m len,c,h=>by
  simp only[pc] at h;split at h
  ·rename_i k n;cases h;obtain⟨_,a⟩:=tZ n;simp only[Nat.sub_zero] at a;have b:=(bt.1 a).1;exact⟨by simp[V.c7,List.getD_eq_getElem?_getD,a],gP.2 b⟩
  cases h
 | .cd id gen size i m,c,h=>by
  simp only[pc] at h;split at h
  ·rename_i k n;cases h;obtain⟨_,a⟩:=tZ n;simp only[Nat.sub_zero] at a;have b:=(bt.1 a).1;exact⟨by simp[V.c7,List.getD_eq_getElem?_getD,a],gP.2 b⟩
  cases h
 | .fn f cs,c,h=>by
  simp only[pc] at h;split at h
  ·rename_i e l;cases h;obtain⟨o,a⟩:=rH cs e l;exact⟨by simp[V.c7,o],by simpa[V.ok] using a⟩
  cases h
 | .agg cs,c,h=>by
  simp only[pc] at h;split at h
  ·rename_i e l;cases h;obtain⟨o,a⟩:=rH cs e l;exact⟨by simp[V.c7,o],by simpa[V.ok] using a⟩
  cases h
 | .t x,c,h=>by cases h;exact⟨rfl,rfl⟩
 | .aP x,c,h=>by cases h;exact⟨rfl,rfl⟩
 | .bG _,_,h| .ct,_,h=>by cases h
theorem rH{L:List Nat}: ∀(cs a:List V),pb L cs=some a->gE L a=cs/\e7 (eg L.length) a=true
 | [],_,h=>by cases h;exact⟨rfl,rfl⟩
 |c::cs,a,h=>by
  simp only[pb] at h;split at h
  ·rename_i e b i k;cases h;obtain⟨ay,a2⟩:=Sh c e i;obtain⟨l,m⟩:=rH cs b k;exact⟨by simp[gE,ay,l],by simp[e7,a2,m]⟩
  cases h
end
def pJ(L:List Nat)(H:Nat->Option E):List Nat->Option (List E)
 | []=>some []
 |id::b=>match H id with
  |some (.cells cs)=>match pb L cs,pJ L H b with
   |some cs,some c=>some (.cells cs::c)
   |_,_=>none
  |some (.arr ty gen size a)=>match pJ L H b with
   |some c=>some (.arr ty gen size a::c)
   |none=>none
  |some (.av e m gen a [])=>match pJ L H b with
   |some c=>some (.av e m gen a []::c)
   |none=>none
  |some (.av _ _ _ _ (_::_))=>none
  |none=>none
theorem tY{L:List Nat}{H:Nat->Option E}: ∀(a:List Nat) (eu:List E),pJ L H a=some eu->eu.length=a.length/\ ∀(k:Nat) (e:E),eu[k]? =some e-> ∃id,a[k]? =some id/\H id=some (e.c7 L)/\e.ok (eg L.length)=true
 | [],_,h=>by cases h;exact⟨rfl,λk e h=>by simp at h⟩
 |id::a,eu,h=>by
  simp only[pJ] at h;split at h
  ·rename_i cs hid;split at h
   ·rename_i q i r l;cases h;obtain⟨ay,a2⟩:=tY a i l;obtain⟨v,w⟩:=rH cs q r;refine⟨by simp[ay],λk e b=>?_⟩;cases k with
    |zero=>simp at b;subst b;exact⟨id,rfl,by rw[hid];simp only[E.c7,v],w⟩
    |succ k=>simp at b;obtain⟨c,n,o⟩:=a2 k e b;exact⟨c,by simpa using n,o⟩
   cases h
  ·rename_i ty gen size p hid;split at h
   ·rename_i i l;cases h;obtain⟨ay,a2⟩:=tY a i l;refine⟨by simp[ay],λk e b=>?_⟩;cases k with
    |zero=>simp at b;subst b;exact⟨id,rfl,hid,rfl⟩
    |succ k=>simp at b;obtain⟨c,n,o⟩:=a2 k e b;exact⟨c,by simpa using n,o⟩
   cases h
  ·rename_i x m gen p hid;split at h
   ·rename_i i l;cases h;obtain⟨ay,a2⟩:=tY a i l;refine⟨by simp[ay],λk e b=>?_⟩;cases k with
    |zero=>simp at b;subst b;exact⟨id,rfl,hid,rfl⟩
    |succ k=>simp at b;obtain⟨c,n,o⟩:=a2 k e b;exact⟨c,by simpa using n,o⟩
   cases h
  ·cases h
  cases h
def uQ(a:Nat):List Nat->Bool
 | []=>true
 |x::l=>bif Nat.beq x a then false else uQ a l
theorem DX{i:Nat}: ∀{l:List Nat},uQ i l=true->i∉l
 | [],_,h=>by cases h
 |x::l,h,hm=>by
  simp only[uQ] at h;cases a:Nat.beq x i with
  |true=>rw[a] at h;cases h
  |false=>
   rw[a] at h;rcases dz.1 hm with rfl|hm
   ·simp at a
   exact DX h hm
def uX:List Nat->Bool
 | []=>true
 |x::l=>uQ x l&&uX l
theorem xu: ∀{l:List Nat},uX l=true->l.Nodup
 | [],_=>List.nodup_nil
 |x::l,h=>by simp only[uX,Bool.and_eq_true] at h;exact List.nodup_cons.2 ⟨DX h.1,xu h.2⟩
def uf(u:Nat->Bool):List Nat->Bool
 | []=>true
 |x::l=> !u x&&uf u l
theorem Di{u:Nat->Bool}: ∀{l:List Nat},uf u l=true-> ∀id,id∈l->u id=false
 | [],_,_,h=>by cases h
 |x::l,h,id,hm=>by
  simp only[uf,Bool.and_eq_true,Bool.not_eq_true'] at h;rcases dz.1 hm with rfl|hm
  ·exact h.1
  exact Di h.2 id hm
theorem Dl{u:Nat->Bool}{i:Nat}: ∀{l:List Nat},i∈l->cO u (l.map λk=>(k,true)) i=true
 |x::l,h=>by
  simp only[List.map_cons,cO];by_cases a:i∈l
  ·rw[uk _ _ u _ ⟨true,fY.2 ⟨i,a,rfl⟩⟩];exact Dl a
  rcases dz.1 h with rfl|h
  ·rw[jV _ _ _ (λv b=>a (by obtain⟨y,c,e⟩:=fY.1 b;cases e;exact c)),bu]
  exact a7 h a
theorem Dj{R:Type}: ∀(L:List Nat),L.Nodup-> ∀(f:Nat->R) (a:List R) (g:Nat->R),a.length=L.length->(∀(k:Nat) x,a[k]? =some x->g k=x)->cO f (L.zip a)=iK f L g
 | [],_,f,a,g,_,_=>by simp[cO,iK]
 |l::L,b,f,[],g,h,_=>by simp at h
 |l::L,b,f,x::a,g,h,m=>by
  simp only[List.nodup_cons] at b;simp only[List.zip_cons_cons,cO,iK];rw[Dj L b.2 (aE f l x) a (λk=>g (k+1)) (by simpa using h) (λk y o=>m (k+1) y (by simpa using o)),m 0 x rfl];funext i;by_cases c:i=l
  ·subst c;rw[d6 b.1,bu,bu]
  rw[bx _ _ _ _ c];by_cases e:i∈L
  ·obtain⟨k,n⟩:=hz.1 e;rw[k5 b.2 n,k5 b.2 n]
  rw[d6 e,d6 e,bx _ _ _ _ c]
abbrev gN:=Option (cg×List cR×List bV)
def pN(d:Option Tmp)(u:Nat->Bool)(v:V)(a:List bV):gN:=
 match a with
 | .nat k::a=>match u k,v.val with
  |false,true=>some (⟨ev d (.ref k 0),[(k,some (.cells v.cs))],[(k,true)]⟩,[],a)
  |_,_=>none
 |_=>none
def zT(d:Option Tmp)(v:V)(a:List bV):gN:=
 match a with
 | .b true::a=>match (kO v).val,iX (kO v).cs with
  |true,some c=>some (⟨ev d (.aP c),[],[]⟩,[],a)
  |_,_=>none
 |_=>none
def HZ:List bV->Bool
 | .b true::_=>true
 |_=>false
def y8(C:dc)(t:TypeId)(H:Nat->Option E)(a v:V)(n:List bV):gN:=
 match cT C.bQ t with
 |none=>none
 |some i=>match a with
  | .ref id b=>match H id with
   |some (.cells cs)=>match v.val,kP v.cs,Nat.beq v.cs.length i.size,Nat.ble (b+i.size) cs.length with
    |true,true,true,true=>some (⟨[],[(id,some (.cells (kh cs b v.cs)))],[]⟩,[],n)
    |_,_,_,_=>none
   |_=>none
  | .cd id gen w k b=>match H id,iX (kO v).cs,n with
   |some (.arr e h m l),some o,.row r:: .rows c::n=>match (kO v).val,Nat.beq o.length i.size,Nat.ble (b+i.size) w with
    |true,true,true=>some (⟨[],[(id,some (.arr e h m c))],[]⟩,
      [.q h gen,.q m w,.p (l[k]? =some r),.p (c=l.set k (r.take b++o++r.drop (b+o.length)))],n)
    |_,_,_=>none
   |_,_,_=>none
  |_=>none
def pR(k a n:Nat):List (Nat×Nat×V)->List cR
 | []=>[]
 |h::b=>bif Nat.ble a h.2.1&&Nat.blt h.2.1 (a+n) then .q h.1 k::pR k a n b else pR k a n b
def pS(k a n:Nat):List (Nat×Nat×V)->List cR
 | []=>[]
 |h::b=>bif Nat.ble a h.2.1&&Nat.blt h.2.1 (a+n) then .p (h.1≠k)::pS k a n b else pS k a n b
def y0(C:dc)(t:TypeId)(H:Nat->Option E)(a v:V)(o:List bV):gN:=
 match cT C.bQ t,a,o with
 |some i,.cd id gen x k b,.row r::o=>match H id with
  |some (.av w m c e h)=>match v.val&&(kP v.cs&&(Nat.beq v.cs.length i.size&&(Nat.ble (b+i.size) r.length&&Nat.blt 0 i.size))),pr h b i.size with
   |true,some l=>some (⟨[],[(id,some (.av w m c e (mx b v.cs h)))],[]⟩,.q c gen:: .q (Y w m).size x:: .p (e[k]? =some r)::(nZ k l++pR k b i.size h),o)
   |_,_=>none
  |_=>none
 |some i,.cd id gen x k b,.int q:: .nat n:: .row r::o=>match H id with
  |some (.av w m c e h)=>match v.val&&(kP v.cs&&(Nat.beq v.cs.length i.size&&(Nat.ble (b+i.size) r.length&&Nat.blt 0 i.size))),pr ((h.drop q.toNat).take n) b i.size with
   |true,some l=>some (⟨[],[(id,some (.av w m c e (h.take q.toNat++(mx b v.cs ((h.drop q.toNat).take n)++(h.drop q.toNat).drop n))))],[]⟩,
     .q c gen:: .q (Y w m).size x:: .p (e[k]? =some r)::(nZ k l++(pR k b i.size ((h.drop q.toNat).take n)++(pS k b i.size (h.take q.toNat)++pS k b i.size ((h.drop q.toNat).drop n)))),o)
   |_,_=>none
  |_=>none
 |_,_,_=>none
def rM(z:List T):List (Nat×Nat)->Bool
 | []=>true
 |p::l=>(match z[p.1]? with|some .en=>true|_=>false)&&rM z l
def zM(C:dc)(d:Option Tmp)(t:TypeId)(u:Nat->Bool)(v w:V)(b:List bV):gN:=
 match cT C.bQ t with
 |none=>none
 |some i=>match i.u with
  | .slice e=>match cT C.bQ e with
   |none=>none
   |some j=>match v,w,b,iX (fv j.z).cs with
    | .t (.int .i64 n),.t (.int .i64 m),.nat k:: .rows R::b,some a=>match u k,(fv j.z).val,Nat.beq a.length j.size,Nat.blt 0 j.size&&Nat.ble j.bytes 200000 with
     |false,true,true,true=>some (⟨ev d (.aN k 1 j.size 0 R.length),[(k,some (.arr e 1 j.size R))],[(k,true)]⟩,[.q n.toNat m.toNat,.p (mk n (a.map gG)=some R),.p (0<=m)],b)
     |_,_,_,_=>none
    | .t (.int .i64 n),.t (.int .i64 m),.nat k:: .cQ _ c q:: .rows R::b,some a=>match u k,(fv j.z).val&&rM a (Y c q).aJ,Nat.beq a.length j.size,Nat.blt 0 j.size&&Nat.ble j.bytes 200000 with
     |false,true,true,true=>some (⟨ev d (.aN k 1 j.size 0 R.length),[(k,some (.av c q 1 R []))],[(k,true)]⟩,[.q (Y c q).ty e,.q (Y c q).size j.size,.q n.toNat m.toNat,.p (mk n (a.map gG)=some R),.p (0<=m)],b)
     |_,_,_,_=>none
    |_,_,_,_=>none
  |_=>none
def y2(C:dc)(d:Option Tmp)(t o:TypeId)(H:Nat->Option E)(v w:V)(l:List bV):gN:=
 match cT C.bQ t with
 |none=>none
 |some i=>match i.u with
  | .slice e=>match cT C.bQ e with
   |none=>none
   |some j=>match v,kO w,l with
    | .aN k gen size m len,.t (.aa h),.rows R::l=>match H k with
     |some (.arr n a b c)=>match Nat.beq m 0,Nat.beq j.z.cells.size j.size&&(Nat.blt 0 j.size&&Nat.ble j.bytes 140000),Nat.beq n e&&Nat.beq o t with
      |true,true,true=>some (⟨ev d (.aN k (a+1) size 0 R.length),[(k,some (.arr n (a+1) b R))],[]⟩,
        [.q a gen,.q b size,.q size j.size,.q len c.length,.p (app c h=some R),.p (Rows j.size c),.p (Rows j.size h)],l)
      |_,_,_=>none
     |_=>none
    |_,_,_=>none
  |_=>none
def yx(C:dc)(d:Option Tmp)(t y:TypeId)(H:Nat->Option E)(v w:V)(o:List bV):gN:=
 match cT C.bQ t with
 |none=>none
 |some i=>match i.u with
  | .slice e=>match cT C.bQ e with
   |none=>none
   |some j=>match v,w,o with
    | .aN k gen size l len,.aN dH F G A r,.rows R::o=>match H k,H dH with
     |some (.av x m b a []),some (.av B W D (L::h) n)=>match Nat.beq l 0&&Nat.beq A 0,Nat.beq j.z.cells.size j.size&&(Nat.blt 0 j.size&&Nat.ble j.bytes 140000),Nat.beq y t&&(rv (Y x m) (h.length+1) n&&px n) with
      |true,true,true=>some (⟨ev d (.aN k (b+1) size 0 R.length),[(k,some (.av x m (b+1) R (fT a.length n)))],[]⟩,
        [.q b gen,.q D F,.q G size,.q size j.size,.q (Y x m).size size,.q (Y x m).ty e,.q r (h.length+1),.q len a.length,.p (Y B W=Y x m),.p (app a (L::h)=some R),.p (Rows j.size a),.p (Rows j.size (L::h))],o)
      |_,_,_=>none
     |some (.arr Q b c a),some _=>match Nat.beq dH k&&Nat.beq l 0,Nat.beq Q e&&(Nat.beq y t&&Nat.blt 0 j.size) with
      |true,true=>some (⟨ev d (.aN k gen size 0 (len+r)),[(k,some (.arr Q b c R))],[]⟩,
        [.q b gen,.q F gen,.q c size,.q G size,.q j.size size,.p (len+r<=a.length),.p (A+r<=a.length),.p (R=a.take len++(a.drop A).take r++a.drop (len+r))],o)
      |_,_=>none
     |_,_=>none
    | .aN k gen size l len,.t (.aa []),.int 0::o=>match H k with
     |some (.arr _ b c _)=>match Nat.beq l 0&&Nat.blt 0 j.size,Nat.beq y t with
      |true,true=>some (⟨ev d (.aN k gen size 0 len),[],[]⟩,[.q b gen,.q c size,.q j.size size],o)
      |_,_=>none
     |_=>none
    |_,_,_=>none
  |_=>none
def tF(d:df):Nat->List V->Option (List T×List (Nat×Nat×V))
 |_,[]=>some ([],[])
 |j,v::b=>match tF d (j+1) b with
  |none=>none
  |some (r,a)=>match d.dv j with
   |some _=>bif v.one then some (.aa []::r,(0,j,v)::a) else none
   |none=>match tK v with
    |some x=>some (x::r,a)
    |none=>none
def mA:Nat->List V->List (Nat×Nat×V)
 |_,[]=>[]
 |i,v::vs=>(i,0,v)::mA (i+1) vs
def zN(C:dc)(d:Option Tmp)(t:TypeId)(n:Nat)(h:List Nat)(u:Nat->Bool)(a:List V)(c:List bV):gN:=
 match cT C.bQ t with
 |none=>none
 |some i=>match i.u with
  | .slice e=>match cT C.bQ e with
   |none=>none
   |some j=>match n,c with
    |1,.lt k b m::c=>match iu (λi=>some (i*j.size,j.size)) (List.replicate (1*j.size) .ct) (h.zip (p0 ((Y b m).dv 0) a)) with
     |none=>none
     |some cs=>match tF (Y b m) 0 cs with
      |none=>none
      |some (r,l)=>match u k,Nat.beq cs.length j.size&&Nat.beq (Y b m).size j.size,Nat.beq h.length a.length&&Nat.beq (Y b m).ty e,Nat.ble (1*j.size) 16777216,Nat.blt 0 j.size with
       |false,true,true,true,true=>some (⟨ev d (.aN k 1 j.size 0 1),[(k,some (.av b m 1 [r] l))],[(k,true)]⟩,[],c)
       |_,_,_,_,_=>none
    |n,.lt k b m::c=>match iu (λi=>some (i*j.size,j.size)) (List.replicate (n*j.size) .ct) (h.zip (fg a)) with
     |none=>none
     |some cs=>match u k,Nat.beq j.size 1&&(Nat.beq cs.length n&&kP cs),Nat.beq h.length a.length&&(Nat.beq (Y b m).ty e&&Nat.beq (Y b m).size 1),Nat.ble (n*j.size) 16777216,Nat.blt 0 n with
      |false,true,true,true,true=>some (⟨ev d (.aN k 1 1 0 n),[(k,some (.av b m 1 (List.replicate n [.aa []]) (mA 0 cs)))],[(k,true)]⟩,[],c)
      |_,_,_,_,_=>none
    |_,_=>none
  |_=>none
def Ae(C:dc)(d:Option Tmp)(t:TypeId)(n:Nat)(b:List Nat)(u:Nat->Bool)(a:List V)(c:List bV):gN:=
 match cT C.bQ t with
 |none=>none
 |some i=>match i.u with
  | .slice e=>match cT C.bQ e with
   |none=>none
   |some j=>match n,b,c with
    |0,[],.nat k::c=>match u k with
     |false=>some (⟨ev d (.aN k 1 j.size 0 0),[(k,some (.arr e 1 j.size []))],[(k,true)]⟩,[],c)
     |true=>none
    |n,b,.int 1:: .nat k::c=>match iu (λi=>some (i*j.size,j.size)) (List.replicate (n*j.size) .ct) (b.zip (fg a)) with
     |none=>none
     |some cs=>match iX cs with
      |none=>none
      |some h=>match u k,Nat.beq h.length (n*j.size),Nat.beq b.length a.length,Nat.ble (n*j.size) 16777216,Nat.blt 0 j.size with
       |false,true,true,true,true=>some (⟨ev d (.aN k 1 j.size 0 (jz j.size n h).length),[(k,some (.arr e 1 j.size (jz j.size n h)))],[(k,true)]⟩,[],c)
       |_,_,_,_,_=>none
    |n,b,.int 2:: .rows R::c=>match iu (λi=>some (i*j.size,j.size)) (List.replicate (n*j.size) .ct) (b.zip (fg a)) with
     |none=>none
     |some cs=>match iX cs with
      |none=>none
      |some h=>match Nat.beq h.length (n*j.size),Nat.beq b.length a.length,Nat.ble (n*j.size) 16777216 with
       |true,true,true=>some (⟨ev d (.t (.aa R)),[],[]⟩,[.p (jz j.size n h=R)],c)
       |_,_,_=>none
    |n,b,.int 0::c=>match iu (λi=>some (i*j.size,j.size)) (List.replicate (n*j.size) .ct) (b.zip (fg a)) with
     |none=>none
     |some cs=>match iX cs with
      |none=>none
      |some h=>match Nat.beq h.length (n*j.size),Nat.beq b.length a.length,Nat.ble (n*j.size) 16777216 with
       |true,true,true=>some (⟨ev d (.t (.aa (jz j.size n h))),[],[]⟩,[],c)
       |_,_,_=>none
    |_,_,_=>none
  |_=>none
mutual
def n0:V->Bool
 | .t (.int _ _)| .t (.bool _)| .t (.str _)=>true
 | .agg cs=>pM cs
 | .bG cs=>pM cs
 |_=>false
def pM:List V->Bool
 | []=>true
 |c::cs=>n0 c&&pM cs
end
def r4(H:Nat->Option E):V->Option (T×List cR)
 | .aN k gen size e len=>match H k with
  |some (.arr _ b c a)=>some (.aa a,[.q gen b,.q size c,.q e 0,.q len a.length])
  |some (.av h m b a [])=>some (.aa a,[.q gen b,.q size (Y h m).size,.q e 0,.q len a.length])
  |_=>none
 | .t x=>some (gG x,[])
 |_=>none
def u'(H:Nat->Option E):List V->Option (List T×List cR)
 | []=>some ([],[])
 |v::a=>match r4 H v,u' H a with
  |some (x,b),some (c,e)=>some (x::c,b++e)
  |_,_=>none
mutual
def kz(H:Nat->Option E):V->Option (V×List cR)
 | .aN k gen size b len=>match r4 H (.aN k gen size b len) with
  |some (x,a)=>some (.t x,a)
  |none=>none
 | .t x=>some (.t (gG x),[])
 | .aP cs=>some (.aP cs,[])
 | .ref id b=>match H id with
  |some (.cells cs)=>match u' H cs with
   |some (dW,a)=>some (.aP (dW.drop b),a)
   |none=>none
  |_=>none
 | .agg cs=>match lN H cs with
  |some (c,a)=>some (.agg c,a)
  |none=>none
 | .bG cs=>match lN H cs with
  |some (c,a)=>some (.bG c,a)
  |none=>none
 | .fn f cs=>match lN H cs with
  |some (c,a)=>some (.fn f c,a)
  |none=>none
 | .cd _ _ _ _ _=>none
 | .ct=>none
def lN(H:Nat->Option E):List V->Option (List V×List cR)
 | []=>some ([],[])
 |v::a=>match kz H v,lN H a with
  |some (x,b),some (c,e)=>some (x::c,b++e)
  |_,_=>none
end
def Gs:List bV->List bV
 | .nat _::hs=>Gs hs
 |hs=>hs
def Ak(C:dc)(d:Option Tmp)(H:Nat->Option E)(a:List V)(c:List bV):gN:=
 match a with
 | .fn f b::args=>match Gs (c.drop 1) with
  | .v r::c=>match lN H (args++b),n0 r with
   |some (e,h),true=>some (⟨ev d r,[],[]⟩,h++[.p (hJ C.P C.G f e r)],c)
   |_,_=>none
  |_=>none
 |_=>none
def zS(C:dc)(d:Option Tmp)(b:List V)(c:List bV):gN:=
 match b with
 | .fn f a::args=>match c with
  | .v r::c=>match e7 e6 (fg (args++a)) with
   |true=>some (⟨ev d r,[],[]⟩,[.p (hJ C.P C.G f (fg (args++a)) r)],c)
   |false=>none
  | .nat _:: .v r::c=>some (⟨ev d r,[],[]⟩,[.p (e7 e6 (fg (args++a))=true),.p (hJ C.P C.G f (fg (args++a)) r)],c)
  |_=>none
 |_=>none
def Ap(C:dc)(d:Option Tmp)(c:List V)(H:Nat->Option E)(u:Nat->Bool)(i:List bV):gN:=
 match c with
 | .fn f h::args=>match i with
  | .ec L a r out::i=>match pb L (fg (args++h)),pJ L H L,uX (L++a)&&uf u a&&Nat.beq out.length (L++a).length with
   |some b,some eu,true=>some (⟨ev d (r.c7 (L++a)),(L++a).zip (out.map λe=>some (e.c7 (L++a))),(L++a).map λk=>(k,true)⟩,[.p (gO C.P C.G f eu b r out)],i)
   |_,_,_=>none
  |_=>none
 |_=>none
def zc(C:dc)(t:TypeId)(H:Nat->Option E)(v:V)(l:List bV):gN:=
 match cT C.bQ t with
 |none=>none
 |some i=>match i.u with
  | .slice e=>match cT C.bQ e with
   |none=>none
   |some j=>match v,l,iX (fv j.z).cs with
    | .aN k gen size h len,.rows R::l,some m=>match H k,(fv j.z).val with
     |some (.arr n c a b),true=>some (⟨[],[(k,some (.arr n c a R))],[]⟩,[.q c gen,.q a size,.q m.length size,.p (h+len<=b.length/\R=b.take h++List.replicate len (m.map gG)++b.drop (h+len))],l)
     |_,_=>none
    |_,_,_=>none
  |_=>none
def zP(C:dc)(d:Option Tmp)(t:TypeId)(H:Nat->Option E)(v w:V)(n:List bV):gN:=
 match cT C.bQ t with
 |none=>none
 |some i=>match i.u with
  | .slice e=>match cT C.bQ e with
   |none=>none
   |some j=>match v,kO w,n with
    | .aN k gen size l len,.t (.aa a),.rows R:: .nat m::n=>match H k,Nat.blt 0 j.size with
     |some (.arr o h b c),true=>some (⟨ev d (.t (.int .i64 m)),[(k,some (.arr o h b R))],[]⟩,
       [.q h gen,.q b size,.q size j.size,.q m (Nat.min a.length len),.p (Rows j.size a),.p (l+len<=c.length/\R=c.take l++a.take m++c.drop (l+m))],n)
     |_,_=>none
    |_,_,_=>none
  |_=>none
def Tt:List bV->Bool
 | .ec _ _ _ _::_=>true
 |_=>false
def AD(C:dc)(o:Oper)(b:List V)(H:Nat->Option E)(u:Nat->Bool)(e:List bV):gN:=
 match hN C.nt o.dst with
 |false=>none
 |true=>match o.op with
  | .box _ _=>match b with
   | [v]=>match HZ e with
    |true=>zT o.dst v e
    |false=>pN o.dst u v e
   |_=>none
  | .alloc t=>match cT C.bQ t with
   |some i=>pN o.dst u (fv i.z) e
   |none=>none
  | .store t _ _=>match o.dst,b with
   |none,[a,v]=>match y8 C t H a v e with
    |some r=>some r
    |none=>y0 C t H a v e
   |_,_=>none
  | .makeSlice t _ _=>match b with
   | [v,w]=>zM C o.dst t u v w e
   |_=>none
  | .buildSlice t n k=>match Ae C o.dst t n (k.toList.map (·.1)) u b e with
   |some r=>some r
   |none=>zN C o.dst t n (k.toList.map (·.1)) u b e
  | .call c=>match c.callee with
   | .value _=>match Tt e with
    |true=>Ap C o.dst b H u e
    |false=>match HZ e with
     |true=>Ak C o.dst H b e
     |false=>zS C o.dst b e
   | .builtin .append=>match c.args.toList,c.argTypes.toList,b with
    | [_,_],[t,l],[v,w]=>match y2 C o.dst t l H v w e with
     |some r=>some r
     |none=>yx C o.dst t l H v w e
    |_,_,_=>none
   | .builtin .clear=>match o.dst,c.args.toList,c.argTypes.toList,b with
    |none,[_],[t],[v]=>zc C t H v e
    |_,_,_,_=>none
   | .builtin .copy=>match c.args.toList,c.argTypes.toList,b with
    | [_,_],[t,_],[v,w]=>zP C o.dst t H v w e
    |_,_,_=>none
   | .builtin _=>match sc C.P C.bQ H o.op b e with
    |some (v,h,e)=>some (⟨ev o.dst v,[],[]⟩,h,e)
    |none=>none
   |_=>none
  |_=>match sc C.P C.bQ H o.op b e with
   |some (v,h,e)=>some (⟨ev o.dst v,[],[]⟩,h,e)
   |none=>none
theorem Qq{z:Value}{a:List T}(i:(fv z).val=true)(k:iX (fv z).cs=some a):z.cells.size=a.length/\ ∀(w:World) (X:Nat->Prop) (j:Nat) (u:Value) (x:T),z.cells[j]? =some u->(a.map gG)[j]? =some x->b9 w X x u:=by
 have h:=fun(w:World) (X:Nat->Prop)=>(tb (⟨λ_=>none,λ_ _=>False⟩:Map) w X z).cells i;have e:=lo k;refine⟨by rw[(h default λ_=>False).1,e,dL],λw X j u x l b=>?_⟩;rw[dT] at b;cases c:a[j]? with
 |none=>rw[c] at b;cases b
 |some y=>
  rw[c] at b;simp only[Option.map_some,Option.some.injEq] at b;subst b
  have:=(h w X).2 j (.t y) u (by rw[e,dT,c];rfl) l;cases this with
  |t _ _ m=>exact m.te
section steps
variable {K:Ctx}{s:S}{d:Option Tmp}{ty:TypeId}{pos:String}{af:Array Edge}{g:Option (Nat×Bool)}
variable {t:TypeId}{u:TypeDesc}{z:Value}{size bytes gen:Nat}
theorem Lj(a:Array Value)(n i j:Nat)(e:i<n)(c:j<a.size):(Builtin.zeroCells a n).toList[i*a.size+j]? =a[j]? :=by
 have b:i*a.size+j<n*a.size:=by
  have:(i+1)*a.size<=n*a.size:=dq _ e
  grind
 have h:(i*a.size+j)%a.size=j:=by rw[Nat.mul_comm,Nat.mul_add_mod];exact Nat.mod_eq_of_lt c
 simp[Builtin.zeroCells,b,h,c]
theorem RV(x:Operand)(E c h:Nat)(e e':TypeId)(rows:List (List T))(A:List T)(hx:s.get x= .aN E gen size c h)(hH:s.H E=some (.arr e' gen size rows))(eV:K.P.underlying t=some (.slice e)){sz:Nat}(he:bL K.P e u z sz bytes)
  (bF:(fv z).val=true) (db:iX (fv z).cs=some A) (G:A.length=size) (ch:c+h<=rows.length):
  dj K ⟨none,.call {callee:= .builtin .clear,args:= #[x],argTypes:= #[t]},ty,pos,af,g⟩ s {s with H:=aE s.H E (some (.arr e' gen size (rows.take c++List.replicate h (A.map gG)++rows.drop (c+h))))}:=by
 intro β a w next Q bH I
 have L:=bH.get x;rw[hx] at L;have M:=(bH.heap E _ hH).2;obtain⟨q,N⟩:=hq M;obtain⟨sI,U⟩:=Qq bF db;unfold Oper.wp;cases h with
 |zero=>
  obtain⟨gB,cap,o⟩: ∃gB cap,a.eval x= .slice gB 0 cap:=by
   rcases ei L N with ⟨cap,b,n,gr,o,_⟩|⟨_,_,_,o⟩
   ·exact⟨_,cap,o⟩
   exact⟨none,0,o⟩
  have y:(execOp a.eval ⟨none,.call {callee:= .builtin .clear,args:= #[x],argTypes:= #[t]},ty,pos,af,g⟩).run K.P w= .ok (.value (.tuple #[])) w:=by
   cases gB<;>simp[execOp,resolve,invoke,builtin,o,Builtin.clear_,run_underlying eV]
  rw[y]
  have:rows.take c++List.replicate 0 (A.map gG)++rows.drop (c+0)=rows:=aV
  refine I β _ _ ?_;rw[this];exact bH.tB E _ hH
 |succ h=>
  rcases ei L N with ⟨cap,b,n,gr,o,hi,hw,hs,cn,lX,hm⟩|⟨_,_,h0,_⟩
  ·subst hi;rcases M.2 with ⟨V,_⟩|⟨b2,C,V,h2,h3,h4,h5⟩
   ·rw[N] at V;cases V
   rw[N] at V;cases V;have D:z.cells.size=size:=by rw[sI,G]
   have p:(Builtin.zeroCells z.cells (h+1)).toList.length=(h+1)*size:=by rw[kS,size_zeroCells,D]
   have oE:c*size+(h+1)*size<=C.size:=by
    have:(c+(h+1))*size<=rows.length*size:=dq _ ch;rw[dM] at this;omega
   have r: ∀(i j:Nat) (u:Value),i<h+1->j<size->(Builtin.zeroCells z.cells (h+1)).toList[i*size+j]? =some u->z.cells[j]? =some u:=by
    intro i j u aD F hu;rw[<-D] at F hu
    rwa [Lj _ _ _ _ aD F] at hu
   have Y: ∀v∈(Builtin.zeroCells z.cells (h+1)).toList,v.oneCell'=true:=by
    intro v VI;obtain⟨k,I⟩:=hz.1 VI;have R:=(bt.1 I).1;rw[p] at R;have hp:0<size:=by
     rcases Nat.eq_zero_or_pos size with e0|e0
     ·rw[e0] at R;omega
     exact e0
    have hdiv:k / size<h+1:=(tQ hp).2 R;have Hw:k%size<size:=Nat.mod_lt _ hp;have lW:(Builtin.zeroCells z.cells (h+1)).toList[k / size*size+k%size]? =some v:=by rw[Nat.div_add_mod'];exact I
    have h9:=r _ _ _ hdiv Hw lW
    have:(A.map gG)[k%size]? =some (gG A[k%size]):=by rw[dT,bh O];rfl
    exact(aS.t (β:=β) _ _ (U w (λ_=>False) _ _ _ h9 this)).gX rfl
   have sD:=run_storeCells_at K.P b (c*size) e' (Builtin.zeroCells z.cells (h+1)).toList 0 C w h2 (by rw[p];omega) Y;simp only[Nat.add_zero] at sD;have y:(execOp a.eval ⟨none,.call {callee:= .builtin .clear,args:= #[x],argTypes:= #[t]},ty,pos,af,g⟩).run K.P w= .ok (.value (.tuple #[])) (w.setRow b (C.toList.take (c*size)++(Builtin.zeroCells z.cells (h+1)).toList++C.toList.drop (c*size+(Builtin.zeroCells z.cells (h+1)).toList.length)).toArray):=by
    simp[execOp,resolve,invoke,builtin,o,Builtin.clear_,run_underlying eV,he.o8,sD]
   rw[y];refine I β _ _ (EM bH E b e' rows _ C _ hH N h2 (by simp[p];omega) ?_ ?_ ?_)
   ·have:(rows.take c++List.replicate (h+1) (A.map gG)++rows.drop (c+(h+1))).length=rows.length:=b1
    rw[this];exact h3
   ·intro m l;rw[ff,ff] at l;rcases l with (l|l)|l
    ·exact h4 m (hA l)
    ·rw[(ri.1 l).2,dL];exact G
    exact h4 m (kl l)
   intro i j m gx jB ay a2 a3;have a3:(C.toList.take (c*size)++(Builtin.zeroCells z.cells (h+1)).toList++C.toList.drop (c*size+(Builtin.zeroCells z.cells (h+1)).toList.length))[i*size+j]? =some jB:=by simpa using a3
   rw[p] at a3;have B:(C.toList.take (c*size)).length=c*size:=b1
   by_cases c1:i<c
   ·rw[ix,hD b1,fJ,bn c1] at ay;have F:j<size:=by rw[<-h4 m (bA ay)];exact(bt.1 a2).1
    have hlt:i*size+j<c*size:=j3 c1 F;rw[ix,hD O,fJ,bn hlt] at a3;exact .inl ⟨i,m,ay,a2,by simpa using a3⟩
   by_cases c2:i<c+(h+1)
   ·rw[hD b1,gK b1] at ay;have l:m=A.map gG:=by
     have:=bA ay;exact(ri.1 this).2
    subst l;have F:j<size:=by rw[<-G,<-dL (f:=gG)];exact(bt.1 a2).1
    have e1:i*size+j=c*size+((i-c)*size+j):=by rw[Nat.sub_mul];have:=dq size (O:c<=i);omega
    have hlt:(i-c)*size+j<(h+1)*size:=j3 O F;rw[e1,hD (by rw[dw,B,p];omega),gK O,B,Nat.add_sub_cancel_left] at a3;exact .inr λw X=>U w X j _ _ (r _ _ _ O F a3) a2
   have W:(rows.take c++List.replicate (h+1) (A.map gG)).length=c+(h+1):=b1
   rw[gK O,W,ga,show c+(h+1)+(i-(c+(h+1)))=i by omega] at ay;have F:j<size:=by rw[<-h4 m (bA ay)];exact(bt.1 a2).1
   have j0:c*size+(h+1)*size<=i*size+j:=by
    have:=dq size (O:c+(h+1)<=i);rw[dM] at this;omega
   rw[gK (by rw[dw,B,p];omega),dw,B,p,ga,show c*size+(h+1)*size+(i*size+j-(c*size+(h+1)*size))=i*size+j by omega] at a3;exact .inl ⟨i,m,ay,a2,by simpa using a3⟩
  omega
theorem MZ(k h l c:Nat)(x y:Operand)(e:TypeId)(rows:List (List T))(cA: ∀i,d=some i->Nat.blt i K.nt=true)(hx:s.get x= .aN k gen size 0 h)(hy:s.get y= .aN k gen size l c)(hH:s.H k=some (.arr e gen size rows))
  (eV:K.P.underlying t=some (.slice e)) (he:bL K.P e u z size bytes) (hp:0<size) (h1:h+c<=rows.length) (h2:l+c<=rows.length):
  dj K ⟨d,.call {callee:= .builtin .append,args:= #[x,y],argTypes:= #[t,t]},ty,pos,af,g⟩ s
   (({s with H:=aE s.H k (some (.arr e gen size (rows.take h++(rows.drop l).take c++rows.drop (h+c))))}:S).put d (.aN k gen size 0 (h+c))):=by
 intro β a w next Q bH hkk
 have I:=bH.get x;rw[hx] at I;have jo:=bH.get y;rw[hy] at jo;have fP:=(bH.heap k _ hH).2;have hl:=fP.1;obtain⟨q,M⟩:=hq fP;obtain⟨_,i,j1,hi2,jk,oF⟩:=id he;unfold Oper.wp;cases c with
 |zero=>
  obtain⟨gB,cap,N⟩: ∃gB cap,a.eval y= .slice gB 0 cap:=by
   rcases ei jo M with ⟨cap,b,n,gr,p,_⟩|⟨_,_,_,p⟩
   ·exact⟨_,cap,p⟩
   exact⟨none,0,p⟩
  have Vx:rows.take h++(rows.drop l).take 0++rows.drop (h+0)=rows:=aV
  have G:(execOp a.eval ⟨d,.call {callee:= .builtin .append,args:= #[x,y],argTypes:= #[t,t]},ty,pos,af,g⟩).run K.P w= .ok (.value (a.eval x)) w:=by
   rcases ei I M with ⟨Aw,b,n,gr,p,_,_,_,_,ch,_⟩|⟨_,_,_,p⟩
   ·cases gB<;>simp[execOp,resolve,invoke,builtin,p,N,Builtin.append_,run_underlying eV,sizeOf,typeInfo,j1,Builtin.lenOf,Builtin.firstCells,ch,storeCells,loadCells,loadCellsFrom]
   cases gB<;>simp[execOp,resolve,invoke,builtin,p,N,Builtin.append_,run_underlying eV,sizeOf,typeInfo,j1,Builtin.lenOf,Builtin.firstCells,loadCells,loadCellsFrom]
  rw[G];refine hkk β _ w ?_;have k8:aE s.H k (some (E.arr e gen size rows))=s.H:=by
   funext j;by_cases D:j=k
   ·subst D;rw[bu,hH]
   rw[bx _ _ _ _ D]
  rw[Vx,k8];exact bH.put d cA I
 |succ c=>
  rcases ei jo M with ⟨T3,b,n,gr,N,hi,hw,hs,cn,lX,hm⟩|⟨_,_,h0,_⟩
  ·subst hi;rcases ei I M with ⟨A,e4,BK,W7,p,kE,VJ,U,oH,X3,vF⟩|⟨h0,_⟩
   ·cases kE;rcases fP.2 with ⟨g1,_⟩|⟨b2,B,g1,g2,g3,g4,g5⟩
    ·rw[M] at g1;cases g1
    rw[M] at g1;cases g1;have HP:B.size=BK:=by
     unfold World.shape? at U;rw[g2] at U;simp at U;exact U.2
    obtain⟨C,HS⟩: ∃C,C=(B.toList.drop (l*size)).take ((c+1)*size):=⟨_,rfl⟩
    have hle:(l+(c+1))*size<=B.size:=dS (dq _ h2) g3;rw[dM] at hle;have F:C.length=(c+1)*size:=by rw[HS];simp;omega
    have L: ∀j v,C[j]? =some v->B[l*size+j]? =some v/\j<(c+1)*size:=λj v bF=>by
     have D:=(bt.1 bF).1;rw[F] at D;rw[HS,fJ,bn D,ga] at bF;exact⟨by simpa using bF,D⟩
    have V: ∀r,r<rows.length-> ∃m,rows[r]? =some m/\m.length=size:=λr su=>⟨_,bh su,g4 _ (ft su)⟩
    have AZ: ∀j v,C[j]? =some v->w.cell? ((⟨b,l*size,none⟩:Addr).add j)=some v:=λj v bF=>by
     rw[gQ];simp only[World.cell?,g2];exact(L j v bF).1
    have kG: ∀v,v∈C->v.oneCell'=true:=λv bF=>by
     obtain⟨j,D⟩:=hz.1 bF;obtain⟨h3,h4⟩:=L j v D;have Hw:j%size<size:=Nat.mod_lt _ hp;have hdiv:j / size<c+1:=(tQ hp).2 h4;obtain⟨m,Bf,Bg⟩:=V (l+j / size) O;have UM:(l+j / size)*size+j%size=l*size+j:=by rw[dM,nG,Nat.div_add_mod']
     exact(g5 (l+j / size) (j%size) m m[j%size] v Bf (bh O) (by rw[UM];exact h3)).gX
    have oE:h*size+C.length<=B.size:=by
     rw[F,<-dM];exact dS (dq _ h1) g3
    have R:h+(c+1)<=A:=by
     have:(h+(c+1))*size<=A*size:=by
      rw[dn] at oH;rw[oH,<-HP];exact dS (dq _ h1) g3
     exact Nat.le_of_mul_le_mul_right this hp
    have W:=run_append_room (P:=K.P) w t ty e i eV j1 b h A B g2 ⟨b,l*size,none⟩ (c+1) T3 C (by rw[jk];exact F) AZ kG R (by rw[jk];exact oE);rw[jk] at W;have G:(execOp a.eval ⟨d,.call {callee:= .builtin .append,args:= #[x,y],argTypes:= #[t,t]},ty,pos,af,g⟩).run K.P w= .ok (.value (.slice (some ⟨b,0,none⟩) (h+(c+1)) A)) (w.setRow b (B.toList.take (h*size)++C++B.toList.drop (h*size+C.length)).toArray):=by
     rw[fe] at p;simp[execOp,resolve,invoke,builtin,p,N,W]
    rw[G];have Y:(B.toList.take (h*size)).length=h*size:=b1
    have qt:(B.toList.take (h*size)++C++B.toList.drop (h*size+C.length)).toArray.size=B.size:=b1
    have X:(rows.take h).length=h:=by rw[dP];omega
    have f:((rows.drop l).take (c+1)).length=c+1:=by rw[dP,iV];omega
    have hrel:=EM bH k b e rows (rows.take h++(rows.drop l).take (c+1)++rows.drop (h+(c+1))) B _ hH M g2 qt ?_ ?_ ?_
    ·refine hkk β _ _ (hrel.put d cA ?_);have iJ:aS β (w.setRow b (B.toList.take (h*size)++C++B.toList.drop (h*size+C.length)).toArray) (own K β (aE s.H k (some (.arr e gen size (rows.take h++(rows.drop l).take (c+1)++rows.drop (h+(c+1))))))) (.aN k gen size 0 (h+(c+1))) (.slice (some ⟨b,0*size,none⟩) (h+(c+1)) A):=by
      refine .aN k gen size 0 _ A b BK e hl M (by simpa using VJ) ?_ oH R vF;unfold World.shape?;rw[setRow_heap _ _ _ _ _ _ g2];simp only[qt,HP]
     rw[fe] at iJ;exact iJ
    ·rw[dw,dw,X,f,iV]
     have:h+(c+1)+(rows.length-(h+(c+1)))=rows.length:=O
     rw[this];exact g3
    ·intro m o;rw[ff,ff] at o;rcases o with (o|o)|o
     ·exact g4 m (hA o)
     ·exact g4 m (kl (hA o))
     exact g4 m (kl o)
    intro r j m gx jB ay a2 a3;have a3:(B.toList.take (h*size)++C++B.toList.drop (h*size+C.length))[r*size+j]? =some jB:=by simpa using a3
    refine .inl ?_;by_cases c1:r<h
    ·rw[ix,hD O,fJ,bn c1] at ay;have D:j<size:=by rw[<-g4 m (bA ay)];exact(bt.1 a2).1
     have hlt:r*size+j<h*size:=j3 c1 D;rw[ix,hD O,fJ,bn hlt] at a3;exact⟨r,m,ay,a2,by simpa using a3⟩
    by_cases c2:r<h+(c+1)
    ·rw[hD (by rw[dw];omega),gK O,X,fJ,bn O,ga] at ay;have D:j<size:=by rw[<-g4 m (bA ay)];exact(bt.1 a2).1
     have e1:r*size+j=h*size+((r-h)*size+j):=by rw[Nat.sub_mul];have:=dq size (O:h<=r);omega
     have hlt:(r-h)*size+j<(c+1)*size:=j3 O D;rw[e1,hD (by rw[dw,Y,F];omega),gK O,Y,Nat.add_sub_cancel_left] at a3;have h9:=(L _ _ a3).1;exact⟨l+(r-h),m,ay,a2,by rw[dM,nG];exact h9⟩
    have U':(rows.take h++(rows.drop l).take (c+1)).length=h+(c+1):=by rw[dw,X,f]
    rw[gK O,U',ga,show h+(c+1)+(r-(h+(c+1)))=r by omega] at ay;have D:j<size:=by rw[<-g4 m (bA ay)];exact(bt.1 a2).1
    have j0:h*size+(c+1)*size<=r*size+j:=by
     have:=dq size (O:h+(c+1)<=r);rw[dM] at this;omega
    rw[gK (by rw[dw,Y,F];omega),dw,Y,F,ga,show h*size+(c+1)*size+(r*size+j-(h*size+(c+1)*size))=r*size+j by omega] at a3;exact⟨r,m,ay,a2,by simpa using a3⟩
   rw[M] at *; cases h0
  omega
theorem LY(k L:Nat)(x y:Operand)(e X:TypeId)(p:List (List T))(f: ∀i,d=some i->Nat.blt i K.nt=true)(j:s.get x= .aN k gen size 0 L)(E:cX (s.get y) (.t (.aa [])))(I:s.H k=some (.arr X gen size p))
  (R:K.P.underlying t=some (.slice e)) (M:bL K.P e u z size bytes) (N:0<size):
  dj K ⟨d,.call {callee:= .builtin .append,args:= #[x,y],argTypes:= #[t,t]},ty,pos,af,g⟩ s (s.put d (.aN k gen size 0 L)):=by
 intro U a w next Q C D
 have h:=C.get x;rw[j] at h;have F:=E _ _ _ _ (C.get y);have G:=(C.heap k _ I).2;obtain⟨q,V⟩:=hq G;obtain⟨_,i,r,Y,jk,oF⟩:=id M;unfold Oper.wp;obtain⟨m,cap,v⟩: ∃m cap,a.eval y= .slice m 0 cap:=by
  rcases yC F (Rows.nil size) N with (⟨A,_⟩|⟨b,o,c,_,A,_⟩)|⟨_,m,cap,A⟩
  ·exact⟨none,0,A⟩
  ·exact⟨_,c,A⟩
  exact⟨m,cap,A⟩
 have B:(execOp a.eval ⟨d,.call {callee:= .builtin .append,args:= #[x,y],argTypes:= #[t,t]},ty,pos,af,g⟩).run K.P w= .ok (.value (a.eval x)) w:=by
  rcases ei h V with ⟨W,b,n,gr,l,_,_,_,_,ch,_⟩|⟨_,_,_,l⟩
  ·cases m<;>simp[execOp,resolve,invoke,builtin,l,v,Builtin.append_,run_underlying R,sizeOf,typeInfo,r,Builtin.lenOf,Builtin.firstCells,ch,storeCells,loadCells,loadCellsFrom]
  cases m<;>simp[execOp,resolve,invoke,builtin,l,v,Builtin.append_,run_underlying R,sizeOf,typeInfo,r,Builtin.lenOf,Builtin.firstCells,loadCells,loadCellsFrom]
 rw[B];exact D U _ w (C.put d f h)
theorem O4{size off:Nat}{a c:List (List T)}{us cs:List Value}(r:off+m<=a.length)(y:a.length*size<=us.length)(o:cs.length=m*size)(A:m<=c.length)(p: ∀b,b∈a->b.length=size)(e: ∀b,b∈c->b.length=size){R:T->Value->Prop}
  (q: ∀(i j:Nat) (b:List T) (x:T) (u:Value),a[i]? =some b->b[j]? =some x->us[i*size+j]? =some u->R x u)
  (v: ∀(i j:Nat) (b:List T) (x:T) (u:Value),c[i]? =some b->b[j]? =some x->cs[i*size+j]? =some u->R x u):
  ∀(i j:Nat) (b:List T) (x:T) (u:Value),(a.take off++c.take m++a.drop (off+m))[i]? =some b->b[j]? =some x->(us.take (off*size)++cs++us.drop (off*size+cs.length))[i*size+j]? =some u->R x u:=by
 have B:off*size+m*size<=a.length*size:=by rw[<-dM];exact dq _ r
 have w:=x2 (us.take (off*size)) cs [] (rows:=a.take off) (news:=c.take m) (n:=off) (size:=size) (by rw[dP];omega) (by rw[dP];omega) (by rw[dP,o];congr 1;omega)
  (λb h=>p b (hA h)) (λb h=>e b (hA h)) (R:=R)
  (λk j b x u ay a2 a3=>by
   rw[fJ] at ay a3;split at ay
   ·split at a3
    ·exact q k j b x u ay a2 a3
    cases a3
   cases ay)
  (λk j b x u ay a2 a3=>by
   rw[fJ] at ay;split at ay
   ·exact v k j b x u ay a2 a3
   cases ay)
 have l:(us.drop (off*size+cs.length)).length=us.length-(off+m)*size:=by rw[iV,o,dM]
 have fy:=x2 (us.take (off*size)++cs) ((us.drop (off*size+cs.length)).take ((a.length-(off+m))*size)) ((us.drop (off*size+cs.length)).drop ((a.length-(off+m))*size)) (rows:=a.take off++c.take m) (news:=a.drop (off+m)) (n:=off+m) (size:=size)
  (by rw[dw,dP,dP];omega) (by rw[dw,dP,o,dM];omega)
  (by
   rw[dP,l,iV]
   have:(a.length-(off+m))*size=a.length*size-(off+m)*size:=Nat.sub_mul _ _ _;omega)
  (λb h=>by
   rcases ff.1 h with h|h
   ·exact p b (hA h)
   exact e b (hA h)) (λb h=>p b (kl h)) (R:=R) (λk j b x u ay a2 a3=>w k j b x u ay a2 (by simpa using a3))
  (λk j b x u ay a2 a3=>by
   rw[ga] at ay;rw[fJ] at a3;split at a3
   ·rw[ga,o] at a3;refine q (off+m+k) j b x u ay a2 ?_;rw[dM,dM,nG];exact a3
   cases a3)
 intro i j b x u ay a2 a3;refine fy i j b x u ay a2 ?_;rw[ix _ (List.take _ _),xc];exact a3
theorem SB(x y:Operand)(E c len:Nat)(e e' jA:TypeId)(rows k:List (List T))(cA: ∀i,d=some i->Nat.blt i K.nt=true)(hx:s.get x= .aN E gen size c len)(hy:cX (s.get y) (.t (.aa k)))(hH:s.H E=some (.arr e' gen size rows))(eV:K.P.underlying t=some (.slice e))
  (he:bL K.P e u z size bytes) (hp:0<size) (I: ∀r,r∈k->r.length=size) (ch:c+len<=rows.length):
  dj K ⟨d,.call {callee:= .builtin .copy,args:= #[x,y],argTypes:= #[t,jA]},ty,pos,af,g⟩ s
   (({s with H:=aE s.H E (some (.arr e' gen size (rows.take c++k.take (Nat.min k.length len)++rows.drop (c+Nat.min k.length len))))}:S).put d (.t (.int .i64 (Nat.min k.length len:Nat)))):=by
 intro β a w next Q bH hk
 have M:=bH.get x;rw[hx] at M;have jo:=hy _ _ _ _ (bH.get y);have N:=(bH.heap E _ hH).2;obtain⟨q,U⟩:=hq N;obtain⟨_,i,j1,hi2,jk,oF⟩:=he;unfold Oper.wp;have VM: ∃C c1,a.eval x= .slice C len c1:=by
  rcases ei M U with ⟨D,b,n,gr,B,_⟩|⟨_,_,h0,B⟩
  ·exact⟨_,D,B⟩
  subst h0;exact⟨none,0,B⟩
 have W:=yC jo I hp;have VO: ∃B7 c2,a.eval y= .slice B7 k.length c2:=by
  rcases W with (⟨A,X⟩|⟨b,c,D,G,A,_⟩)|⟨X,gB,D,A⟩
  ·subst X;exact⟨none,0,A⟩
  ·exact⟨_,_,A⟩
  subst X;exact⟨gB,D,A⟩
 obtain⟨m,hm⟩: ∃m,m=Nat.min k.length len:=⟨_,rfl⟩
 rw[<-hm] at hk;by_cases V:m=0
 ·subst V;obtain⟨C,c1,B⟩:=VM;obtain⟨B7,c2,A⟩:=VO;have F:(execOp a.eval ⟨d,.call {callee:= .builtin .copy,args:= #[x,y],argTypes:= #[t,jA]},ty,pos,af,g⟩).run K.P w= .ok (.value (goInt ((0:Nat):Int))) w:=by
   cases C<;>cases B7<;>simp[execOp,resolve,invoke,builtin,B,A,Builtin.copy_,run_underlying eV,sizeOf,typeInfo,j1,Builtin.lenOf,Builtin.firstCells,<-hm,loadCells,loadCellsFrom,storeCells]
  rw[F]
  have:rows.take c++k.take 0++rows.drop (c+0)=rows:=aV
  rw[this] at hk;exact hk β _ _ ((bH.tB E _ hH).put d cA (.t _ _ (.int _ _)))
 have X6:m<=len:=by rw[hm];exact Nat.min_le_right _ _
 have o:m<=k.length:=by rw[hm];exact Nat.min_le_left _ _
 rcases W with (⟨_,X⟩|⟨b2,WB,vn,f,A,la,sE,k',hwr⟩)|⟨X,_⟩
 ·subst X;simp at o;exact a7 o V
 ·rcases ei M U with ⟨D,b,n,gr,B,hi,hw,hs,X,lX,k9⟩|⟨_,_,h0,_⟩
  ·subst hi;rcases N.2 with ⟨h1,_⟩|⟨Y,G,h1,h2,h3,h4,h5⟩
   ·rw[U] at h1;cases h1
   rw[U] at h1;cases h1;have L:(f.take (m*size)).length=m*size:=by rw[dP,la];have:=dq size o;omega
   have oE:c*size+m*size<=G.size:=by
    have:(c+m)*size<=rows.length*size:=dq _ O;rw[dM] at this;omega
   have Hu:=run_loadCells_list (P:=K.P) w ⟨b2,WB,none⟩ (f.take (m*size)) (λj y hj=>by
    rw[gQ];rw[fJ] at hj;split at hj
    ·exact sE j y hj
    cases hj)
   have sD:=run_storeCells_at K.P b (c*size) e' (f.take (m*size)) 0 G w h2 (by rw[L];omega) λv bF=>k' v (hA bF);simp only[Nat.add_zero] at sD;rw[L] at Hu;have F:(execOp a.eval ⟨d,.call {callee:= .builtin .copy,args:= #[x,y],argTypes:= #[t,jA]},ty,pos,af,g⟩).run K.P w= .ok (.value (goInt (m:Int))) (w.setRow b (G.toList.take (c*size)++f.take (m*size)++G.toList.drop (c*size+(f.take (m*size)).length)).toArray):=by
    simp[execOp,resolve,invoke,builtin,B,A,Builtin.copy_,run_underlying eV,sizeOf,typeInfo,j1,jk,Builtin.lenOf,Builtin.firstCells,<-hm,Hu,sD]
   rw[F];have jn:(G.toList.take (c*size)++f.take (m*size)++G.toList.drop (c*size+(f.take (m*size)).length)).toArray.size=G.size:=by
    have h2: ∀l:List Value,l.toArray.size=l.length:=λl=>aV
    rw[h2];simp only[List.length_append,L,List.length_take,List.length_drop,Array.length_toList];omega
   have hlen:(rows.take c++k.take m++rows.drop (c+m)).length=rows.length:=b1
   have lU:own K β s.H b:= .inr ⟨E,by rw[hH];simp,.inl ⟨_,U⟩⟩;refine hk β _ _ (Rel.put (Rel.setRow bH E b (.inl ⟨_,U⟩) G e' h2 _ jn (.arr e' gen size (rows.take c++k.take m++rows.drop (c+m))) (by rw[hH];simp)
    ⟨N.1,Or.inr ⟨b,_,U,setRow_heap _ _ _ _ _ _ h2,by rw[jn,hlen];exact h3,λr p=>?_,λi j r x u ay a2 a3=>?_⟩⟩) d cA (.t _ _ (.int _ _)))
   ·rw[ff,ff] at p;rcases p with (p|p)|p
    ·exact h4 r (hA p)
    ·exact I r (hA p)
    exact h4 r (kl p)
   have h9:=O4 (off:=c) (m:=m) (us:=G.toList) (cs:=f.take (m*size)) O (by simpa using h3) L o h4 I (R:=λx u=>b9 w (own K β s.H) x u) (λi j r x u cF b2 Y=>h5 i j r x u cF b2 (by simpa using Y))
    (λi j r x u cF b2 Y=>by
     rw[fJ] at Y;split at Y
     ·exact hwr i j r x u cF b2 Y
     cases Y) i j r x u ay a2 (by simpa using a3)
   refine h9.mono ⟨rfl,rfl,rfl,aV,λkk _ hx=>setRow_other _ _ _ _ λe0=>hx ?_⟩ λ_ _ h=>h;subst e0;exact lU
  omega
 subst X;simp at o;exact a7 o V
end steps
end
variable {P:Program}{r:List Nat}{o:Oper}{a l:List V}{v:V}{b i n M F Q W:List bV}{c m jG:List cR}{k gen size:Nat}{e:cg}{e':E}{t:TypeId}{x y:Operand}{u:Nat->Bool}{z:Value}
theorem bK.sub{H r:Nat->Option E}(h:bK P H o a v)(b: ∀k e,H k=some e->r k=some e):bK P r o a v:=
 λβ w X c i l=>h β w X c (λid e m=>i id e (b id e m)) l
theorem dj.Cn{K:Ctx}{s b c:S}(h:dj K o s b)(m: ∀β a w,Rel K β b a w->Rel K β c a w):dj K o s c:=
 λβ a w next Q n p=>h β a w next Q n λe k l i=>p e k l (m e k l i)
theorem QS{K:Ctx}{β:Map}{H:Nat->Option E}{e:E}(l:H k=some e):own K β (aE H k (some e'))=own K β H:=by
 funext b;apply propext;constructor
 ·rintro(h|⟨id,i,a⟩)
  ·exact .inl h
  by_cases c:id=k
  ·subst c;exact .inr ⟨id,by rw[l];simp,a⟩
  rw[bx _ _ _ _ c] at i;exact .inr ⟨id,i,a⟩
 rintro(h|⟨id,i,a⟩)
 ·exact .inl h
 by_cases c:id=k
 ·subst c;exact .inr ⟨id,by rw[bu];simp,a⟩
 exact .inr ⟨id,by rw[bx _ _ _ _ c];exact i,a⟩
theorem Rel.BW{K:Ctx}{β:Map}{s:S}{a:Act}{w:World}(h:Rel K β s a w)(k:Nat){e:E}(l:s.H k=some e)(o: ∀X,b4 β w X k e->b4 β w X k e'):Rel K β {s with H:=aE s.H k (some e')} a w:=by
 have dG:=QS (K:=K) (β:=β) (e':=e') l;refine {h with heap:= ?_,cu:= ?_}
 ·intro id c m;show _/\b4 β w (own K β (aE s.H k (some e'))) id c;rw[dG];by_cases n:id=k
  ·subst n;have b:aE s.H id (some e') id=some c:=m;rw[bu] at b;cases b;obtain⟨p,q⟩:=h.heap id e l
   grind
  have b:aE s.H k (some e') id=some c:=m;rw[bx _ _ _ _ n] at b;exact h.heap id c b
 intro i;show aS β w (own K β (aE s.H k (some e'))) _ _;rw[dG];exact h.cu i
section
variable {K:Ctx}{s:S}{d:Option Tmp}{ty:TypeId}{pos:String}{af:Array Edge}{g:Option (Nat×Bool)}
theorem Fl{f:FuncId}{c:Operand}{b:Array Operand}{k:Array TypeId}(l:List V)(args:List V)(r:V)
  (B:hP K.P f) (D:s.get c= .fn f l) (F: ∀i,d=some i->Nat.blt i K.nt=true) (L:ez (b.toList.map s.get++l) args) (R:e7 e6 args=true) (h:yG K.P K.G f args r):
  dj K ⟨d,.call {callee:= .value c,args:=b,argTypes:=k},ty,pos,af,g⟩ s (s.put d r):=by
 obtain⟨A,W,j,t⟩:=B;intro β a w next Q n I
 have v:A.name≠ "runtime.NumGoroutine" :=by simpa using j
 have x:A.body≠none:=by intro e;simp[e] at t
 obtain⟨us,y,z⟩:=(D▸n.get c).AK;have o:(execOp a.eval ⟨d,.call {callee:= .value c,args:=b,argTypes:=k},ty,pos,af,g⟩).run K.P w= .ok (.enter f (b.map a.eval++us)) w:=by
  simp[execOp,resolve,Deferred.ofValue,y,invoke,callFunc,W,v,x]
 unfold Oper.wp;rw[o,Oper.upon_enter];have m:=(cI.le ((n.k6 b.toList).app z) L).BM R;have p:=h w (own K β s.H) _ n.vB n.BP m;have M:(List.map a.eval b.toList++us.toList).toArray=b.map a.eval++us:=by rw[<-q9,<-Array.toList_append]
 rw[M] at p;refine p.mono ?_;rintro e N ⟨u,rfl,q,T⟩;exact I β _ N ((n.grow q).put d F (T.any λ_ h=>h))
theorem nj{s:S}{d:Option Tmp}{e:E}:cg.app ⟨ev d v,[(k,some e)],[(k,true)]⟩ s=(s.new k e).put d v:=by cases d<;>rfl
theorem ln{s:S}{d:Option Tmp}:cg.app ⟨ev d v,[],[]⟩ s=s.put d v:=by cases d<;>rfl
theorem QL(a: ∀k,u k=false->s.u k=false)(l:hN K.nt d=true)(m:s.get x=v)
  (h:pN d u v i=some (e,c,b)):dj K ⟨d,.box t x,ty,pos,af,g⟩ s (e.app s):=by
 unfold pN at h;split at h
 ·split at h
  ·rename_i n o;cases h;rw[nj];exact TJ _ (a _ n) x v (fx l) m o
  cases h
 cases h
theorem Qr{H:Nat->Option E}(x:Operand)(v:V)(e:List T)(m:v.val=true)(i:v.cs=e.map .t):u1 P H ⟨d,.box t x,ty,pos,af,g⟩ [v] (.aP e):=by
 intro β w X a _ n o;obtain⟨k,p⟩:=(show aS β w X v (a x) from o.1).cells m;have b:(execOp a ⟨d,.box t x,ty,pos,af,g⟩).run P w= .ok (.value (.pointer (some ⟨w.heap.size,0,none⟩))) (w.alloc (.cells (a x).cells t)):=by
  simp[execOp,Instr.box,newVar,newRow]
 refine⟨_,_,b,Ext.alloc _ _ _,?_⟩;refine .aP e w.heap.size 0 (λj=>(a x).cells.getD j undef) aV (λh=>by have:=n _ h;omega) (λj c=>?_) λj y l=>?_
 ·rw[dn,World.cell?_alloc_new]
  have:j<(a x).cells.size:=by rw[k,i];simpa using c
  simp[this]
 have c:j<(a x).cells.size:=by rw[k,i,dL];exact(bt.1 l).1
 have q:=p j (.t y) (a x).cells[j] (by rw[i,dT,l];rfl) (by simp[c]);cases q with
 |t _ _ h=>
  have:(a x).cells.getD j undef=(a x).cells[j]:=by simp[c]
  rw[this];exact h.mono (Ext.alloc X _ _) λ_ _ h=>h
theorem OP(a:hN K.nt d=true)(k:s.get x=v)
  (h:zT d v i=some (e,c,b)):dj K ⟨d,.box t x,ty,pos,af,g⟩ s (e.app s):=by
 unfold zT at h;split at h
 ·split at h
  ·rename_i l m n;cases h;rw[ln];exact BU (vals:=[kO v]) (fx a) ⟨k▸H1 _,trivial⟩ (Qr x _ l m (lo n))
  cases h
 cases h
theorem Oc{a:List (Nat×bM)}(l:dm K.P a){i:bM}(m:cT a t=some i)(o: ∀k,u k=false->s.u k=false)(p:hN K.nt d=true)
  (h:pN d u (fv i.z) n=some (e,c,b)):dj K ⟨d,.alloc t,ty,pos,af,g⟩ s (e.app s):=by
 unfold pN at h;split at h
 ·split at h
  ·rename_i q r;cases h;rw[nj];obtain⟨x,v,_⟩:=l _ _ m;exact RW _ (o _ q) (fx p) v r
  cases h
 cases h
theorem N6{c:List (Nat×bM)}(W:dm K.P c){C:dc}(f:C.bQ=c){H:Nat->Option E}{a:V}(F: ∀k e,H k=some e->s.H k=some e)
  (G:s.get x=a) (L:s.get y=v) (h:y8 C t H a v n=some (e,m,b)) (o:bS m):dj K ⟨none,.store t x y,ty,pos,af,g⟩ s (e.app s):=by
 subst f;unfold y8 at h;split at h
 ·cases h
 rename_i i j;obtain⟨U,Q,_⟩:=W _ _ j;split at h
 ·split at h
  ·rename_i cs p;split at h
   ·rename_i q z A u;cases h;exact RU _ _ _ _ cs v G L (F _ _ p) Q q z A u
   cases h
  cases h
 ·split at h
  ·rename_i I R M l N r B n p D;split at h
   ·rename_i q z A;cases h;obtain⟨rfl,rfl,T,rfl,_⟩:=o;exact MY x y _ _ _ I l r N G (v:=kO v) (by rw[L];exact H1 v) (lo D) q (F _ _ p) Q T (ca z) (eb A)
   cases h
  cases h
 cases h
theorem x3{k i n:Nat}: ∀{l:List (Nat×Nat×V)},bS (pR k i n l)-> ∀c b e,(c,b,e)∈l->i<=b->b<i+n->c=k
 |h::l,a,c,b,e,hm,m,o=>by
  simp only[pR] at a;rcases dz.1 hm with rfl|hm
  ·have q:Nat.ble i b=true:=Nat.ble_eq_true_of_le m;have r:Nat.blt b (i+n)=true:=by simpa[Nat.blt_eq] using o
   simp only[q,r,Bool.and_self,cond_true] at a;exact a.1
  cases p:(Nat.ble i h.2.1&&Nat.blt h.2.1 (i+n)) with
  |true=>rw[p] at a;exact x3 a.2 c b e hm m o
  |false=>rw[p] at a;exact x3 a c b e hm m o
theorem x4{k off n:Nat}: ∀{i:List (Nat×Nat×V)},bS (pS k off n i)-> ∀c b e,(c,b,e)∈i->off<=b->b<off+n->c≠k
 | [],_,_,_,_,hm,_,_=>by cases hm
 |h::i,a,c,b,e,hm,l,m=>by
  unfold pS at a;rcases dz.1 hm with rfl|hm
  ·have p:Nat.ble off b=true:=Nat.ble_eq_true_of_le l;have q:Nat.blt b (off+n)=true:=by simpa[Nat.blt_eq] using m
   simp only[p,q,Bool.and_self,cond_true] at a;exact a.1
  cases o:(Nat.ble off h.2.1&&Nat.blt h.2.1 (off+n)) with
  |true=>rw[o] at a;exact x4 a.2 c b e hm l m
  |false=>rw[o] at a;exact x4 a c b e hm l m
theorem MP{C:dc}(iI:dm K.P C.bQ){H:Nat->Option E}{a:V}{N:List bV}(hH: ∀k e,H k=some e->s.H k=some e)
  (A:s.get x=a) (hy:s.get y=v) (h:y0 C t H a v M=some (e,jG,N)) (B:bS jG):dj K ⟨none,.store t x y,ty,pos,af,g⟩ s (e.app s):=by
 unfold y0 at h;split at h
 ·rename_i i id gen sz k D r M T;obtain⟨W6,U,_⟩:=iI _ _ T;split at h
  ·rename_i Y m F o dG ss;split at h
   ·rename_i l c gj;cases h;simp only[Bool.and_eq_true] at c;obtain⟨rfl,db,bH,cK⟩:=B;obtain⟨jy,G⟩:=bS.app cK;obtain⟨cF,b2⟩:=tw gj jy;refine LV x y _ _ _ Y m o r v dG A hy c.1 c.2.1 (hH _ _ ss) db U (ca c.2.2.1) (by simpa[Nat.blt_eq] using c.2.2.2.2) bH (eb c.2.2.2.1) (x3 G) λj hj=>?_;have hj':=bh (show j<(l.map (·.2)).length by simp[cF];exact hj)
    grind
   cases h
  cases h
 ·rename_i i id gen sz k D q n r M T;obtain⟨W6,U,_⟩:=iI _ _ T;split at h
  ·rename_i Y m F o dG ss;split at h
   ·rename_i l c gj;cases h;simp only[Bool.and_eq_true] at c;obtain⟨rfl,db,bH,cK⟩:=B;obtain⟨jy,G⟩:=bS.app cK;obtain⟨G,nl⟩:=bS.app G;obtain⟨nl,Ii⟩:=bS.app nl;obtain⟨cF,b2⟩:=tw gj jy;have L:=ca c.2.2.1;have Q: ∀x,x∈(dG.drop q.toNat).take n->x∈dG:=λx A=>kl (hA A);have z: ∀x,x∈dG->x∈dG.take q.toNat\/x∈(dG.drop q.toNat).take n\/x∈(dG.drop q.toNat).drop n:=λx A=>by
     rw[<-xc q.toNat dG,ff] at A;rcases A with h|h
     ·exact .inl h
     rw[<-xc n (dG.drop q.toNat),ff] at h
     grind
    refine Lp x y _ _ _ Y m o r v dG A hy c.1 c.2.1 (hH _ _ ss) db U L (by simpa[Nat.blt_eq] using c.2.2.2.2) bH (eb c.2.2.2.1) (λf u I hm=>?_) (λf u R hm=>?_) λj hj=>?_
    ·rcases ff.1 hm with b|b
     ·exact⟨I,hA b,λp=>a7 p.1 (x4 nl f u I b p.2.1 p.2.2),λ_=>rfl⟩
     rcases ff.1 b with b|b
     ·obtain⟨R,ay,a2,a3⟩:=xt b;refine⟨R,Q _ ay,λp=>?_,λp=>a3 λW=>p ⟨x3 G f u R ay W.1 O,W.1,O⟩⟩
      grind
     exact⟨I,kl (kl b),λp=>a7 p.1 (x4 Ii f u I b p.2.1 p.2.2),λ_=>rfl⟩
    ·rcases z _ hm with b|b|b
     ·exact⟨R,ff.2 (.inl b)⟩
     ·obtain⟨v1,h2⟩:=x6 (off:=D) (vs:=v.cs) b
      grind
     exact⟨R,ff.2 (.inr (ff.2 (.inr b)))⟩
    have hj':=bh (show j<(l.map (·.2)).length by simp[cF];exact hj)
    grind
   cases h
  cases h
 cases h
theorem dj.Xj{K:Ctx}{s b c:S}(h:dj K o s b)(p:b.le K c):dj K o s c:=
 λβ a w next Q q r=>h β a w next Q q λi m n k=>let ⟨e,l⟩:=p i m n k;r e m n l
theorem DS{z:List T}: ∀{l:List (Nat×Nat)} {j m:Nat},rM z l=true->pW l j=some m->z[j]? =some .en
 |p::l,j,m,h,a=>by
  simp only[rM,Bool.and_eq_true] at h;simp only[pW] at a;cases b:Nat.beq p.1 j with
  |true=>
   rw[<-ca b];have c:=h.1;split at c
   ·assumption
   cases c
  |false=>rw[b] at a;exact DS h.2 a
theorem Of{K:Ctx}{s:S}(k:Nat){R:TypeId}{e n:Nat}{z:List T}(l:List df)(m:Nat)(B:s.H k=some (.arr R gen e (List.replicate n z)))(v:(Y l m).ty=R)(D:(Y l m).size=e)
  (I:rM z (Y l m).aJ=true):s.le K {s with H:=aE s.H k (some (.av l m gen (List.replicate n (z.map gG)) []))}:=by
 intro β a w h;refine⟨_,h.drop k (.av l m gen (List.replicate n (z.map gG)) []) (by rw[B];simp) ?_⟩;have o:=(h.heap k _ B).2;subst v;subst D;refine⟨o.1,?_⟩;have p: ∀b,own K (β.drop k) (aE s.H k (some (.av l m gen (List.replicate n (z.map gG)) []))) b->own K β s.H b:=by
  rintro b (M|⟨id,v,D⟩)
  ·exact .inl M
  refine .inr ⟨id,λF=>?_,ll D⟩;by_cases W:id=k
  ·subst W;rw[B] at F;cases F
  rw[bx _ _ _ _ W] at v;exact v F
 rcases o.2 with ⟨ay,a2⟩|⟨b,N,ay,a2,a3,a4,a5⟩
 ·have:n=0:=by simpa using a2
  subst this;exact .inl ⟨ay,rfl,λc q=>q.1 rfl⟩
 refine .inr ⟨b,N,λ_ _ _=>False,ay,a2,by simpa using a3,λG P=>?_,λi j G x u A f U=>Cell.of ?_,λ_ _ _ h=>h.elim,λ_ _ _ _ _ h=>h.elim,λc=>⟨λq=>a7 rfl q.1,λ⟨_,_,q⟩=>q.elim⟩⟩
 ·obtain⟨V,rfl⟩:=ri.1 P
  grind
 rw[rf] at A;split at A
 ·rename_i L;cases A;rw[dT] at f;obtain⟨y,t,rfl⟩:=Option.map_eq_some_iff.1 f;have r:=(a5 i j z y u (by rw[rf,bn L]) t U).mono (Ext.refl _ _) λb _=>p b;cases Q:(Y l m).dv j with
  |none=>exact .ee _ _ _ r.te (λ_ h=>h)
  |some m2=>
   have:=DS I Q;rw[t] at this;cases this;cases r;exact .nil _ _ λ_ h=>h
 cases A
theorem OJ{C:dc}(iI:dm K.P C.bQ){w:V}{N:List bV}(L: ∀k,u k=false->s.u k=false)(cA:hN K.nt d=true)
  (hx:s.get x=v) (hy:s.get y=w) (h:zM C d t u v w M=some (e,jG,N)) (Q:bS jG):dj K ⟨d,.makeSlice t x y,ty,pos,af,g⟩ s (e.app s):=by
 unfold zM at h;split at h
 ·cases h
 rename_i i l;split at h
 ·rename_i o T;have eV:K.P.underlying t=some (.slice o):=(iI _ _ l).gu.2.2.2 o T;split at h
  ·cases h
  rename_i j W;obtain⟨mZ,he,_⟩:=iI _ _ W;split at h
  ·rename_i n m k R M p r;split at h
   ·rename_i U f Y z;cases h;obtain⟨hnm,A,B,_⟩:=Q;obtain⟨j2,Vg,rfl⟩:=kL A;have D:m=n:=O
    subst D;simp only[Bool.and_eq_true] at z;have c:=eb z.2;have I:m.toNat*j.bytes<=1000000000*200000:=ml O c;have bl:=jd B;have W:=FY (K:=K) (s:=s) (d:=d) (ty:=ty) (pos:=pos) (af:=af) (g:=g) k (L _ U) x y o m.toNat p (fx cA) eV he (by rw[hx,<-bl]) (by rw[hy,<-bl]) (lo r) f Y z.1 O O;refine W.Cn λβ a w bH=>?_;have hk:((s.new k (.arr o 1 j.size (List.replicate m.toNat p))).put d (.aN k 1 j.size 0 m.toNat)).H k=some (.arr o 1 j.size (List.replicate m.toNat p)):=by
     cases d<;>exact bu _ _ _
    have Bg:=bH.BW k hk λX=>QD;rw[nj,List.length_replicate]
    have: ∀F G:E,({((s.new k F).put d (.aN k 1 j.size 0 m.toNat)) with H:=aE ((s.new k F).put d (.aN k 1 j.size 0 m.toNat)).H k (some G)}:S)=(s.new k G).put d (.aN k 1 j.size 0 m.toNat):=by
     intro F G;have L: ∀a b:Option E,aE (aE s.H k a) k b=aE s.H k b:=by
      intro a b;funext i;by_cases l:i=k
      ·subst l;rw[bu,bu]
      rw[bx _ _ _ _ l,bx _ _ _ _ l,bx _ _ _ _ l]
     cases d<;>simp only[S.put,S.new,L]
    grind
   cases h
  ·rename_i n m k j5 d' q R M p r;split at h
   ·rename_i U f Y z;cases h;obtain⟨VG,jn,hnm,A,B,_⟩:=Q;obtain⟨j2,Vg,rfl⟩:=kL A;have D:m=n:=O
    subst D;simp only[Bool.and_eq_true] at f z;have c:=eb z.2;have I:m.toNat*j.bytes<=1000000000*200000:=ml O c;have bl:=jd B;have W:=FY (K:=K) (s:=s) (d:=d) (ty:=ty) (pos:=pos) (af:=af) (g:=g) k (L _ U) x y o m.toNat p (fx cA) eV he (by rw[hx,<-bl]) (by rw[hy,<-bl]) (lo r) f.1 Y z.1 O O;have hk:((s.new k (.arr o 1 j.size (List.replicate m.toNat p))).put d (.aN k 1 j.size 0 m.toNat)).H k=some (.arr o 1 j.size (List.replicate m.toNat p)):=by
     cases d<;>exact bu _ _ _
    have ch:=Of (K:=K) k d' q hk VG jn f.2;rw[nj,List.length_replicate]
    have: ∀F G:E,({((s.new k F).put d (.aN k 1 j.size 0 m.toNat)) with H:=aE ((s.new k F).put d (.aN k 1 j.size 0 m.toNat)).H k (some G)}:S)=(s.new k G).put d (.aN k 1 j.size 0 m.toNat):=by
     intro F G;have L: ∀a b:Option E,aE (aE s.H k a) k b=aE s.H k b:=by
      intro a b;funext i;by_cases l:i=k
      ·subst l;rw[bu,bu]
      rw[bx _ _ _ _ l,bx _ _ _ _ l,bx _ _ _ _ l]
     cases d<;>simp only[S.put,S.new,L]
    rw[this] at ch;exact W.Xj ch
   cases h
  cases h
 cases h
theorem MR{C:dc}(B:dm K.P C.bQ)(_hn0:C.cE=K.cE){D:TypeId}{H:Nat->Option E}{w:V}{G:List cR}(u: ∀k e,H k=some e->s.H k=some e)(I:hN K.nt d=true)
  (M:s.get x=v) (N:s.get y=w) (h:y2 C d t D H v w F=some (e,G,n)) (o:bS G):dj K ⟨d,.call {callee:= .builtin .append,args:= #[x,y],argTypes:= #[t,D]},ty,pos,af,g⟩ s (e.app s):=by
 unfold y2 at h;split at h
 ·cases h
 rename_i i T;split at h
 ·rename_i L p;have U:K.P.underlying t=some (.slice L):=(B _ _ T).gu.2.2.2 L p;split at h
  ·cases h
  rename_i j Q;obtain⟨mZ,Y,_⟩:=B _ _ Q;split at h
  ·rename_i k gen W off len a R F hw;split at h
   ·rename_i e' c q b ss;split at h
    ·rename_i h1 m r;cases h;obtain⟨rfl,rfl,rfl,rfl,l,z,A,_⟩:=o;obtain⟨aQ,rfl⟩:=q4 l;simp only[Bool.and_eq_true] at m r;have e1:=ca r.1;have e2:=ca r.2;have jS:=ca h1;subst e1;subst e2;subst jS;have f:(b.length+a.length)*j.bytes<=1000000000*140000:=ml aQ (eb m.2.2);have Q:=P1 (K:=K) (s:=s) (d:=d) (ty:=ty) (pos:=pos) (af:=af) (g:=g) (gen:=c) (size:=j.size) k x y e' b a (fx I) M (by rw[N,<-hw];exact H1 w) (u _ _ ss) U Y m.1 m.2.1 z A O O;rw[dw]
     have: ∀v e,cg.app ⟨ev d v,[(k,some e)],[]⟩ s=({s with H:=aE s.H k (some e)}:S).put d v:=by intro v e;cases d<;>rfl
     grind
    cases h
   cases h
  cases h
 cases h
theorem LO{C:dc}(iI:dm K.P C.bQ){jA:TypeId}{H:Nat->Option E}{w:V}(G: ∀k e,H k=some e->s.H k=some e)(f:hN K.nt d=true)
  (u:s.get x=v) (I:s.get y=w) (h:yx C d t jA H v w Q=some (e,jG,W)) (o:bS jG):dj K ⟨d,.call {callee:= .builtin .append,args:= #[x,y],argTypes:= #[t,jA]},ty,pos,af,g⟩ s (e.app s):=by
 unfold yx at h;split at h
 ·cases h
 rename_i i aD;split at h
 ·rename_i M N;have T:K.P.underlying t=some (.slice M):=(iI _ _ aD).gu.2.2.2 M N;split at h
  ·cases h
  rename_i j U;obtain⟨mZ,Y,_⟩:=iI _ _ U;split at h
  ·rename_i k gen r off len dH g3 z3 Yj n3 R Q;split at h
   ·rename_i d' m b a XG m3 Uq cE c Vz z A;split at h
    ·rename_i l n L;cases h;obtain⟨rfl,rfl,rfl,rfl,qq,lT,rfl,rfl,h3,B,Bf,Bg,_⟩:=o;obtain⟨aQ,rfl⟩:=q4 B;simp only[Bool.and_eq_true] at l n L;have D:=ca l.1;have F:=ca l.2;have jS:=ca L.1;subst D;subst F;subst jS;have hmul:(a.length+(cE::c).length)*j.bytes<=1000000000*140000:=ml aQ (eb n.2.2);have U:=Oy (K:=K) (s:=s) (d:=d) (ty:=ty) (pos:=pos) (af:=af) (g:=g) (gen:=b) (size:=j.size) k dH Uq (c.length+1) x y M d' XG m m3 a (cE::c) Vz (fx f) u I (G _ _ z) (G _ _ A) h3 rfl T Y n.1 qq lT Bf Bg (Nat.succ_pos _) L.2.1 L.2.2 O O;rw[dw]
     have: ∀v e,cg.app ⟨ev d v,[(k,some e)],[]⟩ s=({s with H:=aE s.H k (some e)}:S).put d v:=by intro v e;cases d<;>rfl
     grind
    cases h
   ·rename_i e' b p a AB z A;split at h
    ·rename_i l n;cases h;obtain⟨rfl,rfl,rfl,rfl,q,U9,oG,rfl,_⟩:=o;simp only[Bool.and_eq_true] at l n;have D:=ca l.1;have F:=ca l.2;have r9:=ca n.1;have r':=ca n.2.1;have hp:0<j.size:=by simpa[Nat.blt_eq] using n.2.2
     subst D;subst F;subst r9;subst r';subst q;have U:=MZ (K:=K) (s:=s) (d:=d) (ty:=ty) (pos:=pos) (af:=af) (g:=g) _ _ _ _ x y _ _ (fx f) u I (G _ _ z) T Y hp U9 oG
     have: ∀v e,cg.app ⟨ev d v,[(dH,some e)],[]⟩ s=({s with H:=aE s.H dH (some e)}:S).put d v:=by intro v e;cases d<;>rfl
     grind
    cases h
   cases h
  ·rename_i k gen r off len Q;split at h
   ·rename_i e' b p a z;split at h
    ·rename_i l n;cases h;obtain⟨rfl,rfl,q,_⟩:=o;simp only[Bool.and_eq_true] at l;have D:=ca l.1;have F:=ca n;have hp:0<j.size:=by simpa[Nat.blt_eq] using l.2
     subst D;subst F;subst q;rw[ln];exact LY (K:=K) (s:=s) (d:=d) (ty:=ty) (pos:=pos) (af:=af) (g:=g) _ _ x y _ _ _ (fx f) u (cX.of_eq I) (G _ _ z) T Y hp
    cases h
   cases h
  cases h
 cases h
theorem Sp{x:T}(h:tK v=some x):v= .t x:=by
 cases v<;>simp[tK] at h
 grind
theorem C5{d:df}: ∀{j:Nat} {a:List V} {r:List T} {c:List (Nat×Nat×V)},tF d j a=some (r,c)->r.length=a.length/\
  (∀i b v,(i,b,v)∈c->i=0/\ ∃k,b=j+k/\a[k]? =some v)/\(∀(k:Nat) x,r[k]? =some x->(∃v,(0,j+k,v)∈c)\/(d.dv (j+k)=none/\a[k]? =some (.t x)))
 |j,[],r,c,h=>by cases h;exact⟨rfl,λ_ _ _ h=>a7 h List.not_mem_nil,λk x h=>by simp at h⟩
 |j,v::a,r,c,h=>by
  simp only[tF] at h;split at h
  ·cases h
  rename_i G n B;obtain⟨ay,a2,a3⟩:=C5 B;have y: ∀i b c8,(i,b,c8)∈n->i=0/\ ∃k,b=j+k/\(v::a)[k]? =some c8:=λi b c8 hm=>by
   obtain⟨D,k,L,F⟩:=a2 i b c8 hm;exact⟨D,k+1,O,by simpa using F⟩
  split at h
  ·rename_i Q z;cases A:v.one with
   |false=>rw[A] at h;cases h
   |true=>
    rw[A] at h;cases h;refine⟨by simp[ay],λi b c8 hm=>?_,λk x l=>?_⟩
    ·rcases dz.1 hm with e|hm
     ·cases e;exact⟨rfl,0,rfl,rfl⟩
     exact y i b c8 hm
    cases k with
    |zero=>exact .inl ⟨v,ep⟩
    |succ k=>
     have:=a3 k x (by simpa using l);rw[show j+1+k=j+(k+1) by omega] at this;rcases this with ⟨c8,o⟩|⟨m,p⟩
     ·exact .inl ⟨c8,dU _ o⟩
     exact .inr ⟨m,by simpa using p⟩
  rename_i z;split at h
  ·rename_i R q;cases h;refine⟨by simp[ay],y,λk x l=>?_⟩;cases k with
   |zero=>simp at l;subst l;exact .inr ⟨z,by simp[Sp q]⟩
   |succ k=>
    have:=a3 k x (by simpa using l);rw[show j+1+k=j+(k+1) by omega] at this;rcases this with m|⟨m,p⟩
    ·exact .inl m
    exact .inr ⟨m,by simpa using p⟩
  cases h
theorem Sz{u:TypeDesc}{p:Nat}(k:Nat)(hk:s.u k=false)(n:Array (Nat×Operand))(e:TypeId)(l U:List V)(q:List df)(m:Nat)(r:List T)(N:List (Nat×Nat×V))(cA: ∀i,d=some i->Nat.blt i K.nt=true)(A:ez ((n.toList.map (·.2)).map s.get) l)
  (hu:K.P.underlying t=some (.slice e)) (he:bL K.P e u z size p) (B:Nat.beq n.toList.length l.length=true) (hp:Nat.blt 0 size=true) (D:Nat.ble (1*size) 16777216=true)
  (gj:iu (λi=>some (i*size,size)) (List.replicate (1*size) .ct) ((n.toList.map (·.1)).zip l)=some U) (VB:tF (Y q m) 0 U=some (r,N)) (hcl:U.length=size) (qq:(Y q m).size=size) (lT:(Y q m).ty=e):
  dj K ⟨d,.buildSlice t 1 n,ty,pos,af,g⟩ s ((s.new k (.av q m 1 [r] N)).put d (.aN k 1 size 0 1)):=by
 have Vp:0<size:=by simpa[Nat.blt_eq] using hp
 obtain⟨tl,Ic,WC⟩:=C5 VB;intro β a w next Q bH hkk
 have AW:cI β w (own K β s.H) l ((n.toList.map (·.2)).map a.eval):=(bH.k6 _).le A;have sH:=qJ a.eval n.toList;obtain⟨b,h1,h2⟩:=q1 (β:=β) (w:=w) (X:=own K β s.H) (λi=>some (i*size,size)) (n.toList.map (·.1)) l _ (List.replicate (1*size) .ct)
  ((Array.range (1*size)).map ((if 1*size=0 then #[] else z.cells)[· %(if 1*size=0 then #[] else z.cells).size]!)) _ (x1 _ _ _ _ _ aV) AW (by simpa using ca B) gj
 have F:(execOp a.eval ⟨d,.buildSlice t 1 n,ty,pos,af,g⟩).run K.P w= .ok (.value (.slice (some ⟨w.heap.size,0,none⟩) 1 1)) (w.alloc (.cells b e)):=by
  have G:(n.toList.map λx=>match x with|(i,x)=>(i,a.eval x))=(n.toList.map (·.1)).zip ((n.toList.map (·.2)).map a.eval):=by rw[<-sH]
  have aQ: ¬(1*size>2^24):=by have:=eb D;omega
  have h0: ¬1*size=0:=O
  simp only[execOp,Instr.buildSlice,Sem.run_bind,run_underlying hu,Result.andThen_ok,he.run_sizeOf,aQ,if_false,Array.toList_map];simp only[h0,if_false] at h1;simp only[h0,if_false,Sem.run_pure,Sem.run_bind,he.o8,Result.andThen_ok];rw[G,h1];rfl
 unfold Oper.wp;rw[F];have o:b.size=size:=by
  have h:=h2.1
  grind
 have L:=bH.BL k 1 hk b e (.av q m 1 [r] N) (λβ' X' w' hw lZ R hn=>⟨cL _,Or.inr ⟨w.heap.size,b,λ_ _ _=>False,lZ,by subst hw;rw[lT];exact ie _ _,by rw[o,qq];simp,λrow W=>by rw[rj.1 W,tl,hcl,qq],λi j row x y ay a2 a3=>by
  have aD:=(bt.1 ay).1;have UU:i=0:=by simpa using aD
  subst UU;simp at ay;subst ay;rw[fe,dn] at a3;refine⟨λv A=>⟨?_,λ_ h=>h⟩,λcn=>?_⟩
  ·obtain⟨_,bz,f,G⟩:=Ic _ _ _ A;rw[dn] at f;subst f;exact R _ _ (h2.2 _ _ y G (by simpa using a3))
  rcases WC j x a2 with ⟨v,A⟩|⟨f,G⟩
  ·rw[dn] at A;exact a7 A (cn v)
  rw[dn] at f;rw[f];have h6:=R _ _ (h2.2 _ _ y G (by simpa using a3));cases h6 with|t _ _ h=>exact .ee _ _ _ h λ_ h=>h,λ_ _ _ h=>h.elim,λ_ _ _ _ _ h=>h.elim,λc=>⟨λh=>a7 h (hn c),λ⟨_,_,h⟩=>h.elim⟩⟩⟩)
 have I:(w.alloc (.cells b e)).heap.size=w.heap.size+1:=World.size_alloc ..;have fz:(w.alloc (.cells b e)).shape? w.heap.size=some (e,b.size):=by unfold World.shape?;rw[ie]
 have M:aS (β.put k (some (some w.heap.size,1))) (w.alloc (.cells b e)) (own K (β.put k (some (some w.heap.size,1))) (s.new k (.av q m 1 [r] N)).H) (.aN k 1 size 0 1)
   (.slice (some ⟨w.heap.size,0*size,none⟩) 1 1):= .aN k 1 size 0 1 1 w.heap.size b.size e (cL _) (bu _ _ _) (I▸ly _) fz (by rw[o];omega) (cL _) (by unfold maxLen;omega)
 rw[fe] at M;exact hkk _ _ _ (L.put d cA M)
theorem E6{n j:Nat}{v:V}: ∀{a:List V} {i:Nat},(n,j,v)∈mA i a->j=0/\ ∃k,n=i+k/\a[k]? =some v
 |x::a,i,h=>by
  simp only[mA] at h;rcases dz.1 h with h|h
  ·cases h;exact⟨rfl,0,rfl,rfl⟩
  obtain⟨e,k,c,b⟩:=E6 h;exact⟨e,k+1,O,by simpa using b⟩
theorem E5{v:V}: ∀{vs:List V} {i k:Nat},vs[k]? =some v->(i+k,0,v)∈mA i vs
 |x::vs,i,0,h=>by
  simp at h;subst h;exact ep
 |x::vs,i,k+1,h=>by have:=E5 (i:=i+1) (k:=k) (vs:=vs) (by simpa using h);rw[show i+1+k=i+(k+1) by omega] at this;exact dU _ this
theorem SA{u:TypeDesc}{b A:Nat}(k:Nat)(hk:s.u k=false)(n:Nat)(p:Array (Nat×Operand))(e:TypeId)(o B:List V)(D:List df)(m:Nat)(cA: ∀i,d=some i->Nat.blt i K.nt=true)(N:ez ((p.toList.map (·.2)).map s.get) o)
  (hu:K.P.underlying t=some (.slice e)) (he:bL K.P e u z b A) (F:Nat.beq p.toList.length o.length=true) (cn:Nat.blt 0 n=true) (T:b=1) (G:Nat.ble (n*b) 16777216=true)
  (gj:iu (λi=>some (i*b,b)) (List.replicate (n*b) .ct) ((p.toList.map (·.1)).zip o)=some B) (hcl:B.length=n) (U:(Y D m).size=1) (lT:(Y D m).ty=e):
  dj K ⟨d,.buildSlice t n p,ty,pos,af,g⟩ s ((s.new k (.av D m 1 (List.replicate n [.aa []]) (mA 0 B))).put d (.aN k 1 1 0 n)):=by
 subst T;have L:0<n:=by simpa[Nat.blt_eq] using cn
 intro β a w next Q bH hkk
 have AW:cI β w (own K β s.H) o ((p.toList.map (·.2)).map a.eval):=(bH.k6 _).le N;have sH:=qJ a.eval p.toList;obtain⟨l,h1,h2⟩:=q1 (β:=β) (w:=w) (X:=own K β s.H) (λi=>some (i*1,1)) (p.toList.map (·.1)) o _ (List.replicate (n*1) .ct)
  ((Array.range (n*1)).map ((if n*1=0 then #[] else z.cells)[· %(if n*1=0 then #[] else z.cells).size]!)) _ (x1 _ _ _ _ _ aV) AW (by simpa using ca F) gj
 have XT:=eb G;have R:(execOp a.eval ⟨d,.buildSlice t n p,ty,pos,af,g⟩).run K.P w= .ok (.value (.slice (some ⟨w.heap.size,0,none⟩) n n)) (w.alloc (.cells l e)):=by
  have e2:(p.toList.map λx=>match x with|(i,x)=>(i,a.eval x))=(p.toList.map (·.1)).zip ((p.toList.map (·.2)).map a.eval):=by rw[<-sH]
  have aQ: ¬(n*1>2^24):=O
  have h0: ¬n*1=0:=O
  simp only[execOp,Instr.buildSlice,Sem.run_bind,run_underlying hu,Result.andThen_ok,he.run_sizeOf,aQ,if_false,Array.toList_map];simp only[h0,if_false] at h1;simp only[h0,if_false,Sem.run_pure,Sem.run_bind,he.o8,Result.andThen_ok];rw[e2,h1];rfl
 unfold Oper.wp;rw[R];have q:l.size=n:=by
  have h:=h2.1;rw[kS] at h;omega
 have W:=bH.BL k 1 hk l e (.av D m 1 (List.replicate n [.aa []]) (mA 0 B)) (λβ' X' w' hw L l1 hn=>⟨cL _,Or.inr ⟨w.heap.size,l,λ_ _ _=>False,L,by subst hw;rw[lT];exact ie _ _,by rw[q,U];simp,λf r=>by rw[(ri.1 r).2,U];rfl,λi j f x y ay a2 a3=>by
  have aD:=(bt.1 ay).1;rw[List.length_replicate] at aD;have r:f=[.aa []]:=(ri.1 (bA ay)).2;subst r;have hj0:j=0:=by
   have:=(bt.1 a2).1;simpa using this
  subst hj0;rw[U,Nat.mul_one,nH] at a3;refine⟨λv N=>⟨?_,λ_ h=>h⟩,λoH=>?_⟩
  ·obtain⟨_,bz,e1,e2⟩:=E6 N;rw[dn] at e1;subst e1;exact l1 _ _ (h2.2 _ _ y e2 (by simpa using a3))
  have bl:=bh (O:i<B.length)
  have:=E5 (i:=0) bl;rw[dn] at this;exact a7 this (oH _),λ_ _ _ h=>h.elim,λ_ _ _ _ _ h=>h.elim,λc=>⟨λh=>a7 h (hn c),λ⟨_,_,h⟩=>h.elim⟩⟩⟩)
 have I:(w.alloc (.cells l e)).heap.size=w.heap.size+1:=World.size_alloc ..;have fz:(w.alloc (.cells l e)).shape? w.heap.size=some (e,l.size):=by unfold World.shape?;rw[ie]
 have M:aS (β.put k (some (some w.heap.size,1))) (w.alloc (.cells l e)) (own K (β.put k (some (some w.heap.size,1))) (s.new k (.av D m 1 (List.replicate n [.aa []]) (mA 0 B))).H) (.aN k 1 1 0 n)
   (.slice (some ⟨w.heap.size,0*1,none⟩) n n):= .aN k 1 1 0 n n w.heap.size l.size e (cL _) (bu _ _ _) (I▸ly _) fz (by rw[q];omega) (cL _) (by unfold maxLen;omega)
 rw[fe] at M;exact hkk _ _ _ (W.put d cA M)
theorem TI{u:TypeDesc}{B:Nat}(k:Nat)(hk:s.u k=false)(n:Nat)(p:Array (Nat×Operand))(e:TypeId)(o:List V)(c:List (List T))(cA: ∀i,d=some i->Nat.blt i K.nt=true)(bF:ez ((p.toList.map (·.2)).map s.get) o)
  (hu:K.P.underlying t=some (.slice e)) (he:bL K.P e u z size B) (G:Nat.beq p.toList.length o.length=true)
  (cn:c.length=n) (hp:Nat.blt 0 size=true) (D: ∀l,l∈c->l.length=size) (A:Nat.ble (n*size) 16777216=true)
  (gj:iu (λi=>some (i*size,size)) (List.replicate (n*size) .ct) ((p.toList.map (·.1)).zip o)=some (c.flatten.map .t)):
  dj K ⟨d,.buildSlice t n p,ty,pos,af,g⟩ s ((s.new k (.arr e 1 size c)).put d (.aN k 1 size 0 c.length)):=by
 subst cn;have Vp:0<size:=by simpa[Nat.blt_eq] using hp
 intro β a w next Q bH U
 have Y:cI β w (own K β s.H) o ((p.toList.map (·.2)).map a.eval):=(bH.k6 _).le bF;have sH:=qJ a.eval p.toList;obtain⟨m,v,F⟩:=q1 (β:=β) (w:=w) (X:=own K β s.H) (λi=>some (i*size,size)) (p.toList.map (·.1)) o _ (List.replicate (c.length*size) .ct)
  ((Array.range (c.length*size)).map ((if c.length*size=0 then #[] else z.cells)[· %(if c.length*size=0 then #[] else z.cells).size]!)) _ (x1 _ _ _ _ _ aV) Y (by simpa using ca G) gj
 have L:(execOp a.eval ⟨d,.buildSlice t c.length p,ty,pos,af,g⟩).run K.P w= .ok (.value (.slice (some ⟨w.heap.size,0,none⟩) c.length c.length)) (w.alloc (.cells m e)):=by
  have e2:(p.toList.map λx=>match x with|(i,x)=>(i,a.eval x))=(p.toList.map (·.1)).zip ((p.toList.map (·.2)).map a.eval):=by rw[<-sH]
  have aQ: ¬(c.length*size>2^24):=by have:=eb A;omega
  simp only[execOp,Instr.buildSlice,Sem.run_bind,run_underlying hu,Result.andThen_ok,he.run_sizeOf,aQ,if_false,Array.toList_map];by_cases N:c.length*size=0
  ·simp only[N,if_true] at v;simp only[N,if_true,Sem.run_pure,Sem.run_bind,Result.andThen_ok];rw[e2,v];rfl
  simp only[N,if_false] at v;simp only[N,if_false,Sem.run_pure,Sem.run_bind,he.o8,Result.andThen_ok];rw[e2,v];rfl
 unfold Oper.wp;rw[L];have q:m.size=c.flatten.length:=by
  have h:=F.1
  grind
 have R:c.flatten.length=c.length*size:=by
  rw[List.length_flatten]
  have:c.map List.length=List.replicate c.length size:=List.eq_replicate_iff.2 ⟨aV,λb aQ=>by obtain⟨r,bH,rfl⟩:=fY.1 aQ;exact D r bH⟩;rw[this];simp
 have W: ∀(c:List (List T)),(∀l,l∈c->l.length=size)-> ∀(i j:Nat) (l:List T) (x:T),c[i]? =some l->l[j]? =some x->c.flatten[i*size+j]? =some x:=by
  intro c;induction c with
  |nil=>intro _ i j l x h _;simp at h
  |cons r c l5=>
   intro hs i j l x v F;have bH:=hs r aV;rw[List.flatten_cons];cases i with
   |zero=>
    simp at v;subst v
    have:=(bt.1 F).1;rw[fe,dn,hD this];exact F
   |succ i=>
    simp at v;rw[gK (by rw[bH,dM];omega)];rw[show(i+1)*size+j-r.length=i*size+j by rw[bH,dM];omega];exact l5 (λl h=>hs l (by simp[h])) i j l x v F
 have f:=bH.new k 1 hk m e (.arr e 1 size c) (λβ' X' w' hw lZ l1=>⟨cL _,Or.inr ⟨w.heap.size,m,lZ,by subst hw;exact ie _ _,by rw[q,R];exact cL _,D,λi j l x y ay a2 a3=>by
  have h5:=W c D i j l x ay a2;have h6:=F.2 (i*size+j) (.t x) y (by rw[dT,h5];rfl) (by simpa using a3);have il:=l1 _ _ h6;cases il with|t _ _ h=>exact h⟩⟩)
 have I:(w.alloc (.cells m e)).heap.size=w.heap.size+1:=World.size_alloc ..;have fz:(w.alloc (.cells m e)).shape? w.heap.size=some (e,m.size):=by unfold World.shape?;rw[ie]
 have M:aS (β.put k (some (some w.heap.size,1))) (w.alloc (.cells m e)) (own K (β.put k (some (some w.heap.size,1))) (s.new k (.arr e 1 size c)).H) (.aN k 1 size 0 c.length)
   (.slice (some ⟨w.heap.size,0*size,none⟩) c.length c.length):= .aN k 1 size 0 c.length c.length w.heap.size m.size e (cL _) (bu _ _ _) (I▸ly _) fz (by rw[q,R];simp) (cL _)
    (by
     have aQ:=eb A;unfold maxLen
     have:c.length*1<=c.length*size:=Nat.mul_le_mul_left _ O;omega)
 rw[fe] at M;exact U _ _ _ (f.put d cA M)
theorem QE{C:dc}(W:dm K.P C.bQ){n:Nat}{m:Array (Nat×Operand)}{f:List bV}{I:List cR}(M: ∀k,u k=false->s.u k=false)(A:hN K.nt d=true)
  (G:a=(m.toList.map (·.2)).map s.get) (h:Ae C d t n (m.toList.map (·.1)) u a f=some (e,I,F)) (L:bS I):dj K ⟨d,.buildSlice t n m,ty,pos,af,g⟩ s (e.app s):=by
 unfold Ae at h;split at h
 ·cases h
 rename_i i N;split at h
 ·rename_i p Q;have B:K.P.underlying t=some (.slice p):=(W _ _ N).gu.2.2.2 p Q;split at h
  ·cases h
  rename_i j T;obtain⟨mZ,D,_⟩:=W _ _ T;split at h
  ·rename_i k f R;split at h
   ·rename_i o;cases h
    have:m= #[]:=by
     have:m.toList=[]:=by simpa using R
     grind
    subst this;rw[nj];exact P0 k (M _ o) p (fx A) B D
   cases h
  ·split at h
   ·cases h
   rename_i cs c;split at h
   ·cases h
   rename_i q l;split at h
   ·rename_i U o r v Y;cases h;have b:=ca o;obtain⟨x,y,z⟩:=ue j.size _ q b;rw[nj];refine TI _ (M _ U) _ m p (fg a) _ (fx A) (by rw[G];exact jv _) B D (by rw[oR];simpa using r) x Y y v (by rw[c,z,lo l])
   cases h
  ·split at h
   ·cases h
   rename_i cs c;split at h
   ·cases h
   rename_i q l;split at h
   ·rename_i o r v;cases h;have b:=ca o;obtain⟨x,y,z⟩:=ue j.size _ q b;rw[ln];rw[<-L.1];refine BU (vals:=fg a) (fx A) ?_ (JF _ m p (fg a) _ B D ?_ (by simp[x]) y v (by rw[c,z,lo l]))
    ·rw[G];simp only[Op.operands];exact jv _
    rw[oR];simpa using r
   cases h
  ·split at h
   ·cases h
   rename_i cs c;split at h
   ·cases h
   rename_i q l;split at h
   ·rename_i o r v;cases h;have b:=ca o;obtain⟨x,y,z⟩:=ue j.size _ q b;rw[ln];refine BU (vals:=fg a) (fx A) ?_ (JF _ m p (fg a) _ B D ?_ (by simp[x]) y v (by rw[c,z,lo l]))
    ·rw[G];simp only[Op.operands];exact jv _
    rw[oR];simpa using r
   cases h
  cases h
 cases h
theorem OK{C:dc}(G:dm K.P C.bQ){n:Nat}{b:Array (Nat×Operand)}{o p:List bV}(L: ∀k,u k=false->s.u k=false)(Q:hN K.nt d=true)
  (R:a=(b.toList.map (·.2)).map s.get) (h:zN C d t n (b.toList.map (·.1)) u a o=some (e,c,p)):dj K ⟨d,.buildSlice t n b,ty,pos,af,g⟩ s (e.app s):=by
 unfold zN at h;split at h
 ·cases h
 rename_i i I;split at h
 ·rename_i x z;have W:K.P.underlying t=some (.slice x):=(G _ _ I).gu.2.2.2 x z;split at h
  ·cases h
  rename_i j M;obtain⟨U,f,_⟩:=G _ _ M;split at h
  ·rename_i k y m o;split at h
   ·cases h
   rename_i cs q;split at h
   ·cases h
   rename_i r N A;split at h
   ·rename_i B v l D F;cases h;simp only[Bool.and_eq_true] at v l;rw[nj];exact Sz k (L _ B) b x (p0 ((Y y m).dv 0) a) cs y m r N (fx Q) (by rw[R];exact QV _ _) W f (by rw[LX];simpa using l.1) F D q A (ca v.1) (ca v.2) (ca l.2)
   cases h
  ·rename_i k y m o _;split at h
   ·cases h
   rename_i cs q;split at h
   ·rename_i B v l D F;cases h;simp only[Bool.and_eq_true] at v l;have T:=ca v.1;rw[nj];exact SA k (L _ B) _ b x (fg a) cs y m (fx Q) (by rw[R];exact jv _) W f (by rw[oR];simpa using l.1) F T D q (ca v.2.1) (ca l.2.2) (ca l.2.1)
   cases h
  cases h
 cases h
theorem OO{C:dc}(x:C.P=K.P)(y:C.G=K.G){c:Operand}{i:Array Operand}{k:Array TypeId}(z:hN K.nt d=true)
  (q:a=s.get c::i.toList.map s.get) (h:zS C d a n=some (e,m,b)) (r:bS m):dj K ⟨d,.call {callee:= .value c,args:=i,argTypes:=k},ty,pos,af,g⟩ s (e.app s):=by
 unfold zS at h;split at h
 ·rename_i f l args;split at h
  ·split at h
   ·rename_i o;cases h;rw[ln];obtain⟨⟨v,p⟩,_⟩:=r;rw[x] at v p;rw[y] at p;simp only[List.cons.injEq] at q;exact Fl l _ _ v q.1.symm (fx z) (by rw[<-q.2];exact jv _) o p
   cases h
  ·cases h;rw[ln];obtain⟨o,⟨v,p⟩,_⟩:=r;rw[x] at v p;rw[y] at p;simp only[List.cons.injEq] at q;exact Fl l _ _ v q.1.symm (fx z) (by rw[<-q.2];exact jv _) o p
  cases h
 cases h
mutual
theorem EW{a W:Map}{w b:World}{X j:Nat->Prop}: ∀{v:V} {u:Value},n0 v=true->aS a w X v u->aS W b j v u
 | .t (.int _ _),u,_,h=>by rw[cY h];exact .t _ _ (.int _ _)
 | .t (.bool _),u,_,h=>by rw[kJ h];exact .t _ _ (.bool _)
 | .t (.str _),u,_,h=>by rw[fD h];exact .t _ _ (.str _)
 | .agg cs,u,e,h=>by
  simp only[n0] at e;cases h with|agg _ l m h=>exact .agg _ l m (λi c u k n=>yv e i c u k (h i c u k n))
 | .bG cs,u,e,h=>by
  simp only[n0] at e;cases h with|bG _ l m h=>exact .bG _ l m (λi c u k n=>yv e i c u k (h i c u k n))
 | .t (.aa _),_,e,_| .t .en,_,e,_| .t .gW,_,e,_| .t .eO,_,e,_| .t .jw,_,e,_| .t .err,_,e,_=>by simp[n0] at e
 | .ref _ _,_,e,_| .aP _,_,e,_| .aN _ _ _ _ _,_,e,_| .cd _ _ _ _ _,_,e,_| .fn _ _,_,e,_| .ct,_,e,_=>by simp[n0] at e
theorem yv{a W:Map}{w b:World}{X j:Nat->Prop}: ∀{cs:List V},pM cs=true-> ∀(i:Nat) c u,cs[i]? =some c->aS a w X c u->aS W b j c u
 | [],_,_,_,_,h,_=>by simp at h
 |c::cs,e,0,l,u,k,h=>by
  simp only[pM,Bool.and_eq_true] at e;simp at k;subst k;exact EW e.1 h
 |c::cs,e,i+1,l,u,k,h=>by simp only[pM,Bool.and_eq_true] at e;exact yv e.2 i l u (by simpa using k) h
end
theorem b4.read{β:Map}{w:World}{X N:Nat->Prop}{a:List (List T)}{u:Value}(h:b4 β w X k (.arr t gen size a))(A:aS β w X (.aN k gen size 0 a.length) u)
  (B: ∀b,N b->X b) (D: ∀b,At β k b-> ¬N b):b9 w N (.aa a) u:=by
 obtain⟨q,r⟩:=hq h;rcases ei A r with ⟨v,b,n,F,rfl,m,G,I,L,Q,M⟩|⟨m,_,R,rfl⟩
 ·subst m;rcases h.2 with ⟨o,y⟩|⟨P,l,o,y,U,z,W⟩
  ·rw[r] at o;cases o
  rw[r] at o;cases o;rw[fe];refine .aa a b 0 size v (λi j=>l.getD (i*size+j) undef) G (D b (.inl ⟨_,r⟩)) Q z (λi j aD f=>?_) λi j p x ay a2=>?_
  ·have c:i*size+j<l.size:=by
    have:(i+1)*size<=a.length*size:=dq _ aD;rw[dM] at this;omega
   rw[dn];simp[World.cell?,y,c]
  have aD:=(bt.1 ay).1;have f:j<size:=by rw[<-z p (bA ay)];exact(bt.1 a2).1
  have c:i*size+j<l.size:=by
   have:(i+1)*size<=a.length*size:=dq _ aD
   grind
  have:=W i j p x l[i*size+j] ay a2 (by simp[c]);have e:l.getD (i*size+j) undef=l[i*size+j]:=by simp[c]
  rw[e];exact this.mono (Ext.refl _ _) λb _=>B b
 have:a=[]:=List.length_eq_zero_iff.1 R;subst this;exact .eH _ _
theorem b4.WS{β:Map}{w:World}{X F:Nat->Prop}{l:List df}{m:Nat}{a:List (List T)}{u:Value}(h:b4 β w X k (.av l m gen a []))(W:aS β w X (.aN k gen (Y l m).size 0 a.length) u)
  (f: ∀b,F b->X b) (L: ∀b,At β k b-> ¬F b):b9 w F (.aa a) u:=by
 obtain⟨q,A⟩:=rk h;rcases ei W A with ⟨G,b,n,t,rfl,o,I,hs,M,N,hm⟩|⟨o,_,P,rfl⟩
 ·subst o;rcases h.2 with ⟨p,Q⟩|⟨e4,r,B,p,Q,h3,R,U,_,_,V⟩
  ·rw[A] at p;cases p
  rw[A] at p;cases p;rw[fe];have v: ∀i j,i<a.length->j<(Y l m).size->i*(Y l m).size+j<r.size:=λi j aD D=>by
   have:(i+1)*(Y l m).size<=a.length*(Y l m).size:=dq _ aD
   grind
  refine .aa a b 0 (Y l m).size G (λi j=>r.getD (i*(Y l m).size+j) undef) I (L b (.inl ⟨_,A⟩)) N R (λi j aD D=>?_) λi j y x ay a2=>?_
  ·have:=v i j aD D;rw[dn];simp[World.cell?,Q,this]
  have aD:=(bt.1 ay).1;have D:j<(Y l m).size:=by rw[<-R y (bA ay)];exact(bt.1 a2).1
  have z:=v i j aD D
  have:=(U i j y x r[i*(Y l m).size+j] ay a2 (by simp[z])).none;have e:r.getD (i*(Y l m).size+j) undef=r[i*(Y l m).size+j]:=by simp[z]
  rw[e];exact this.q7 f λc bl=>L c (.inr ((V c).2 ⟨i,j,bl⟩))
 have:a=[]:=List.length_eq_zero_iff.1 P;subst this;exact .eH _ _
def py:V->List Nat
 | .aN k _ _ _ _=>[k]
 |_=>[]
mutual
def nM(H:Nat->Option E):V->List Nat
 | .aN k _ _ _ _=>[k]
 | .ref id _=>id::(match H id with
  |some (.cells cs)=>cs.flatMap py
  |_=>[])
 | .agg cs=>mf H cs
 | .bG cs=>mf H cs
 | .fn _ cs=>mf H cs
 | .t _| .aP _| .cd _ _ _ _ _| .ct=>[]
def mf(H:Nat->Option E):List V->List Nat
 | []=>[]
 |v::a=>nM H v++mf H a
end
section
variable {β:Map}{w:World}{X X1:Nat->Prop}{H:Nat->Option E}
theorem FK{x:T}{u:Value}(r: ∀k e,H k=some e->b4 β w X k e)(n: ∀b,X1 b->X b)(z: ∀k,k∈py v-> ∀b,At β k b-> ¬X1 b)
  (h:r4 H v=some (x,c)) (a:bS c) (o:aS β w X v u):b9 w X1 x u:=by
 cases v with
 |aN k gen A B len=>
  simp only[r4] at h;split at h
  ·rename_i ty i p l q;cases h;obtain⟨rfl,rfl,rfl,rfl,_⟩:=a;exact(r k _ q).read o n (z k (by simp[py]))
  ·rename_i D m i l q;cases h;obtain⟨rfl,rfl,rfl,rfl,_⟩:=a;exact(r k _ q).WS o n (z k (by simp[py]))
  cases h
 |t y=>
  simp only[r4] at h;cases h;cases o with|t _ _ h=>exact(h.mono (Ext.refl _ _) λb _=>n b).te
 |agg=>cases h
 |bG=>cases h
 |ref=>cases h
 |aP=>cases h
 |cd=>cases h
 |fn=>cases h
 |ct=>cases h
theorem EP(r: ∀k e,H k=some e->b4 β w X k e)(z: ∀b,X1 b->X b): ∀{a:List V} {dW:List T} {n:List cR},(∀k,k∈a.flatMap py-> ∀b,At β k b-> ¬X1 b)->u' H a=some (dW,n)->bS n->
  dW.length=a.length/\ ∀(l:Nat->Option Value),(∀(i:Nat) c u,a[i]? =some c->l i=some u->aS β w X c u)-> ∀(i:Nat) x u,dW[i]? =some x->l i=some u->b9 w X1 x u
 | [],_,_,_,h,_=>by cases h;exact⟨rfl,λ_ _ i x u D=>by simp at D⟩
 |v::a,dW,n,A,h,o=>by
  simp only[u'] at h;split at h
  ·rename_i x F M G L Q;cases h;obtain⟨R,W⟩:=bS.app o;obtain⟨f,t⟩:=EP r z (λk p=>A k (by rw[List.flatMap_cons];exact nJ _ p)) Q W;refine⟨by simp[f],λl B i y u q m=>?_⟩;cases i with
   |zero=>
    simp at q;subst q;exact FK r z (λk p=>A k (by rw[List.flatMap_cons];exact lv _ p)) L R (B 0 v u rfl m)
   |succ i=>
    exact t (λj=>l (j+1)) (λj c u I m=>B (j+1) c u (by simpa using I) m) i y u (by simpa using q) m
  cases h
mutual
theorem RH(G: ∀k e,H k=some e->b4 β w X k e)(B: ∀b,X1 b->X b): ∀(v:V) {r:V} {y:List cR} {u:Value},(∀k,k∈nM H v-> ∀b,At β k b-> ¬X1 b)->
  kz H v=some (r,y)->bS y->aS β w X v u->aS d7 w X1 r u
 | .aN k gen M l len,r,y,u,q,h,a,o=>by
  simp only[kz] at h;split at h
  ·rename_i x z A;cases h;exact .t _ _ (FK G B (λj Q=>q j (by simpa[nM,py] using Q)) A a o)
  cases h
 | .t x,r,y,u,q,h,a,o=>by
  simp only[kz] at h;cases h;cases o with|t _ _ h=>exact .t _ _ (h.mono (Ext.refl _ _) λb _=>B b).te
 | .aP cs,r,y,u,q,h,a,o=>by
  simp only[kz] at h;cases h;exact o.under (u:=e6) B (λ_ h=>by simp[e6] at h) rfl
 | .ref id l,r,y,u,q,h,a,o=>by
  simp only[kz] at h;split at h
  ·rename_i cs m;split at h
   ·rename_i dW z A;cases h;obtain⟨b,N,rfl⟩:=o4 o;obtain⟨e4,n,ty,P,T,jS,r9⟩:=G id _ m;rw[N] at P;cases P;obtain⟨R,D⟩:=EP G B (λk F=>q k (by simp only[nM,m];exact dU _ F)) A a;have W:b<w.heap.size:=by
     have:=(gw.1 T).1;exact this
    refine .aP (dW.drop l) b l (λj=>n.getD (l+j) undef) W (q id (by simp[nM]) b (.inl ⟨_,N⟩)) (λj Q=>?_) λj x I=>?_
    ·rw[iV] at Q
     have:l+j<n.size:=O
     simp[World.cell?,T,this]
    rw[ga] at I;have Q:=(bt.1 I).1
    have:l+j<n.size:=O
    have e:n.getD (l+j) undef=n[l+j]:=by simp[this]
    rw[e];exact D (λi=>n[i]?) (λi c u m p=>r9 i c u m p) (l+j) x _ I (by simp[this])
   cases h
  cases h
 | .agg cs,r,y,u,q,h,a,o=>by
  simp only[kz] at h;split at h
  ·rename_i U z A;cases h;cases o with|agg _ n Y L=>
   obtain⟨R,D⟩:=rB G B cs (λk F=>q k (by simpa[nM] using F)) A a;exact .agg _ n O λi c u m p=>D (λi=>n[i]?) (λi c u m p=>L i c u m p) i c u m p
  cases h
 | .bG cs,r,y,u,q,h,a,o=>by
  simp only[kz] at h;split at h
  ·rename_i U z A;cases h;cases o with|bG _ n Y L=>
   obtain⟨R,D⟩:=rB G B cs (λk F=>q k (by simpa[nM] using F)) A a;exact .bG _ n O λi c u m p=>D (λi=>n[i]?) (λi c u m p=>L i c u m p) i c u m p
  cases h
 | .fn f cs,r,y,u,q,h,a,o=>by
  simp only[kz] at h;split at h
  ·rename_i U z A;cases h;cases o with|fn _ _ n Y L=>
   obtain⟨R,D⟩:=rB G B cs (λk F=>q k (by simpa[nM] using F)) A a;exact .fn _ _ n O λi c u m p=>D (λi=>n[i]?) (λi c u m p=>L i c u m p) i c u m p
  cases h
 | .cd _ _ _ _ _,_,_,_,_,h,_,_=>by simp only[kz] at h;cases h
 | .ct,_,_,_,_,h,_,_=>by simp only[kz] at h;cases h
theorem rB(z: ∀k e,H k=some e->b4 β w X k e)(A: ∀b,X1 b->X b): ∀(l:List V) {a:List V} {o:List cR},(∀k,k∈mf H l-> ∀b,At β k b-> ¬X1 b)->
  lN H l=some (a,o)->bS o->a.length=l.length/\ ∀(m:Nat->Option Value),(∀(i:Nat) c u,l[i]? =some c->m i=some u->aS β w X c u)-> ∀(i:Nat) x u,a[i]? =some x->m i=some u->aS d7 w X1 x u
 | [],_,_,_,h,_=>by simp only[lN] at h;cases h;exact⟨rfl,λ_ _ i x u F=>by simp at F⟩
 |v::l,a,o,B,h,p=>by
  simp only[lN] at h;split at h
  ·rename_i x G N L Q R;cases h;obtain⟨W,f⟩:=bS.app p;obtain⟨t,I⟩:=rB z A l (λk q=>B k (by simp only[mf];exact nJ _ q)) R f;refine⟨by simp[t],λm D i y u r n=>?_⟩;cases i with
   |zero=>
    simp at r;subst r;exact RH z A v (λk q=>B k (by simp only[mf];exact lv _ q)) Q W (D 0 v u rfl n)
   |succ i=>
    exact I (λj=>m (j+1)) (λj c u M n=>D (j+1) c u (by simpa using M) n) i y u (by simpa using r) n
  cases h
end
theorem RI(r: ∀k e,H k=some e->b4 β w X k e)(v: ∀b,X1 b->X b): ∀{l a:List V} {m:List cR} {us:List Value},(∀k,k∈mf H l-> ∀b,At β k b-> ¬X1 b)->
  lN H l=some (a,m)->bS m->cI β w X l us->cI d7 w X1 a us:=fun {l a m us} x h n q=>by obtain⟨y,z⟩:=rB r v l x h n;exact CL (by rw[y];exact q.ey.1) λi c u o p=>z (λi=>us[i]?) (λi c u o p=>q.ey.2 i c u o p) i c u o p
end
theorem QM{C:dc}(sr:C.P=K.P)(iH:C.G=K.G){c:Operand}{i:Array Operand}{v:Array TypeId}{H:Nat->Option E}{T D:List bV}{U:List cR}(cA:hN K.nt d=true)(hH: ∀k e,H k=some e->s.H k=some e)
  (F:l=s.get c::i.toList.map s.get) (h:Ak C d H l T=some (e,U,D)) (L:bS U):dj K ⟨d,.call {callee:= .value c,args:=i,argTypes:=v},ty,pos,af,g⟩ s (e.app s):=by
 unfold Ak at h;split at h
 ·rename_i f m args;split at h
  ·rename_i r T;split at h
   ·rename_i ys YD n R;cases h;rw[ln];obtain⟨tl,⟨x,o⟩,_⟩:=bS.app L;rw[sr] at x o;rw[iH] at o;simp only[List.cons.injEq] at F;obtain⟨Y,h1,h2,h3⟩:=x;intro β a w next Q q W
    have j:Y.name≠ "runtime.NumGoroutine" :=by simpa using h2
    have t:Y.body≠none:=by intro e;simp[e] at h3
    obtain⟨us,I,M⟩:=(F.1.symm▸q.get c).AK;have y:(execOp a.eval ⟨d,.call {callee:= .value c,args:=i,argTypes:=v},ty,pos,af,g⟩).run K.P w= .ok (.enter f (i.map a.eval++us)) w:=by
     simp[execOp,resolve,Deferred.ofValue,I,invoke,callFunc,h1,j,t]
    unfold Oper.wp;rw[y,Oper.upon_enter];have z:cI β w (own K β s.H) (args++m) (i.toList.map a.eval++us.toList):=by rw[F.2];exact(q.k6 i.toList).app M
    let X1:Nat->Prop:=λb=>own K β s.H b/\ ∀k,k∈mf H (args++m)-> ¬At β k b;have p:=RI (X1:=X1) (λk e N=>(q.heap k e (hH k e N)).2) (λb n=>n.1) (λk W b n hx=>hx.2 k W n) n tl z;have A:=o w X1 _ q.vB (λb n=>q.BP b n.1) p;have N:(List.map a.eval i.toList++us.toList).toArray=i.map a.eval++us:=by rw[<-q9,<-Array.toList_append]
    rw[N] at A;refine A.mono ?_;rintro e w' ⟨u,rfl,B,hu⟩;exact W β _ w' ((q.grow B).put d (fx cA) (EW R hu))
   cases h
  cases h
 cases h
theorem RZ{C:dc}(N:C.P=K.P)(T:C.G=K.G){c:Operand}{D:Array Operand}{q:Array TypeId}{H:Nat->Option E}{t:List cR}(U:hN K.nt d=true)
  (Y: ∀k e,H k=some e->s.H k=some e) (hu: ∀k,u k=false->s.u k=false)
  (x:l=s.get c::D.toList.map s.get) (h:Ap C d l H u W=some (e,t,F)) (Q:bS t):dj K ⟨d,.call {callee:= .value c,args:=D,argTypes:=q},ty,pos,af,g⟩ s (e.app s):=by
 unfold Ap at h;split at h
 ·rename_i f z args;split at h
  ·rename_i L a r out W;split at h
   ·rename_i R eu fE aD m;cases h;simp only[List.cons.injEq] at x;simp only[Bool.and_eq_true] at m;obtain⟨⟨n,A⟩,b⟩:=m;have b:=ca b;obtain⟨⟨I,p⟩,_⟩:=Q;rw[N] at I p;rw[T] at p;obtain⟨ay,a2⟩:=rH _ _ fE;obtain⟨i1,i2⟩:=tY _ _ aD;have hx:=PF (K:=K) (s:=s) (o:=⟨d,.call {callee:= .value c,args:=D,argTypes:=q},ty,pos,af,g⟩) c L a z rfl x.1.symm I (fx U) (by rw[<-x.2,ay];exact jv _) a2 i1
     (λk e i=>by
      obtain⟨id,h1,h2,h4⟩:=i2 k e i;exact⟨id,h1,Y _ _ h2,h4⟩)
     (xu n) (λid hid=>hu _ (Di A id hid)) (λ_=>b) p
    have hj:=hx.j;have i:cg.app ⟨ev d (r.c7 (L++a)),(L++a).zip (out.map λe=>some (e.c7 (L++a))),(L++a).map λk=>(k,true)⟩ s=(s.after (L++a) out).put d (r.c7 (L++a)):=by
     have e1:cO s.H ((L++a).zip (out.map λe=>some (e.c7 (L++a))))=iK s.H (L++a) (λk=>(out[k]?).map (E.c7 (L++a))):=by
      have:=Dj (L++a) (xu n) s.H (out.map λe=>some (e.c7 (L++a))) (λk=>(out[k]?).map (E.c7 (L++a))) (by simpa using b) (λk e i=>by
       rw[dT] at i;cases M:out[k]? with
       |none=>rw[M] at i;cases i
       |some y=>rw[M] at i;simp at i;rw[<-i];rfl)
      exact this
     have e2:cO s.u ((L++a).map λk=>(k,true))=iK s.u (L++a) (λ_=>true):=by
      funext id;by_cases B:id∈L++a
      ·obtain⟨k,hk⟩:=hz.1 B;rw[k5 (xu n) hk];exact Dl B
      rw[d6 B,jV _ _ _ λv x=>B (by obtain⟨y,hy,e⟩:=fY.1 x;cases e;exact hy)]
     unfold cg.app S.after;cases d<;>simp only[ev,cO,S.put,e1,e2]
    grind
   cases h
  cases h
 cases h
theorem Oa{C:dc}(q:dm K.P C.bQ){H:Nat->Option E}(r: ∀k e,H k=some e->s.H k=some e)
  (y:s.get x=v) (h:zc C t H v n=some (e,c,b)) (a:bS c):dj K ⟨none,.call {callee:= .builtin .clear,args:= #[x],argTypes:= #[t]},ty,pos,af,g⟩ s (e.app s):=by
 unfold zc at h;split at h
 ·cases h
 rename_i i z;split at h
 ·rename_i l m;have A:K.P.underlying t=some (.slice l):=(q _ _ z).gu.2.2.2 l m;split at h
  ·cases h
  rename_i j B;obtain⟨Q,D,_⟩:=q _ _ B;split at h
  ·rename_i o;split at h
   ·rename_i F G;cases h;obtain⟨rfl,rfl,p,⟨L,rfl⟩,_⟩:=a;exact RV x _ _ _ l _ _ _ y (r _ _ F) A D G o p L
   cases h
  cases h
 cases h
theorem OL{C:dc}(z:dm K.P C.bQ){A:TypeId}{H:Nat->Option E}{w:V}{B l:List bV}{D:List cR}(L: ∀k e,H k=some e->s.H k=some e)(Q:hN K.nt d=true)
  (W:s.get x=v) (f:s.get y=w) (h:zP C d t H v w B=some (e,D,l)) (n:bS D):dj K ⟨d,.call {callee:= .builtin .copy,args:= #[x,y],argTypes:= #[t,A]},ty,pos,af,g⟩ s (e.app s):=by
 unfold zP at h;split at h
 ·cases h
 rename_i i u;split at h
 ·rename_i o p;have I:K.P.underlying t=some (.slice o):=(z _ _ u).gu.2.2.2 o p;split at h
  ·cases h
  rename_i j F;obtain⟨mZ,M,_⟩:=z _ _ F;split at h
  ·rename_i k gen G q len a R m B N;split at h
   ·rename_i T b r c U Y;cases h;obtain⟨rfl,rfl,rfl,rfl,bH,⟨ch,rfl⟩,_⟩:=n;have F:=SB (K:=K) (s:=s) (d:=d) (ty:=ty) (pos:=pos) (af:=af) (g:=g) (gen:=b) (size:=j.size) x y k q len o T A c a (fx Q) W (by rw[f,<-N];exact H1 w) (L _ _ U) I M (by simpa[Nat.blt_eq] using Y) bH ch
    have: ∀v e,cg.app ⟨ev d v,[(k,some e)],[]⟩ s=({s with H:=aE s.H k (some e)}:S).put d v:=by intro v e;cases d<;>rfl
    grind
   cases h
  cases h
 cases h
theorem Th{C:dc}(q:dm K.P C.bQ)(I:C.P=K.P)(T:C.G=K.G)(cn:C.nt=K.nt)(U:C.cE=K.cE){H:Nat->Option E}{R:List cR}
  (a:l=o.op.operands.toList.map s.get) (B: ∀k e,H k=some e->s.H k=some e) (L: ∀k,u k=false->s.u k=false) (h:AD C o l H u M=some (e,R,Q)) (b:bS R):dj K o s (e.app s):=by
 obtain⟨d,W,ty,pos,af,g⟩:=o;unfold AD at h;dsimp only at h;split at h
 ·cases h
 rename_i p;rw[cn] at p;have D: ∀{W:Op} {r:gN},l=W.operands.toList.map s.get->(match sc C.P C.bQ H W l M with|some (v,R,M)=>some ((⟨ev d v,[],[]⟩:cg),R,M)|none=>none)=some (e,R,Q)->dj K ⟨d,W,ty,pos,af,g⟩ s (e.app s):=by
  intro W r a h;split at h
  ·rename_i v YC X8 m;cases h;rw[ln];rw[I] at m;exact Mb (vals:=l) (fx p) (ez.of_eq a.symm) ((Tg q m b).sub B)
  cases h
 split at h
 ·split at h
  ·simp only[Op.operands,List.map_cons,List.map_nil,List.cons.injEq,and_true] at a;split at h
   ·exact OP p a.symm h
   exact QL L p a.symm h
  cases h
 ·split at h
  ·rename_i i aD;exact Oc q aD L p h
  cases h
 ·split at h
  ·simp only[Op.operands,List.map_cons,List.map_nil,List.cons.injEq,and_true] at a;split at h
   ·rename_i m;cases h;exact N6 q rfl B a.1.symm a.2.symm m b
   exact MP q B a.1.symm a.2.symm h b
  cases h
 ·split at h
  ·simp only[Op.operands,List.map_cons,List.map_nil,List.cons.injEq,and_true] at a;exact OJ q L p a.1.symm a.2.symm h b
  cases h
 ·split at h
  ·rename_i m;cases h;exact QE q L p (by simpa[Op.operands] using a) m b
  exact OK q L p (by simpa[Op.operands] using a) h
 ·rename_i c;obtain⟨N,args,F⟩:=c;dsimp only at h;split at h
  ·rename_i f;split at h
   ·exact RZ I T p B L (by simpa[Op.operands,Call.operands] using a) h b
   split at h
   ·exact QM I T p B (by simpa[Op.operands,Call.operands] using a) h b
   exact OO I T p (by simpa[Op.operands,Call.operands] using a) h b
  ·split at h
   ·rename_i x y t Y v w j z;have A:args= #[x,y]:=by rw[<-j]
    have n:F= #[t,Y]:=by rw[<-z]
    subst A;subst n;simp only[Op.operands,Call.operands] at a;simp at a;split at h
    ·rename_i m;cases h;exact MR q U B p a.1.symm a.2.symm m b
    exact LO q B p a.1.symm a.2.symm h b
   cases h
  ·split at h
   ·rename_i x t v j z;have A:args= #[x]:=by rw[<-j]
    have n:F= #[t]:=by rw[<-z]
    subst A;subst n;simp only[Op.operands,Call.operands] at a;simp at a;exact Oa q B a.symm h b
   cases h
  ·split at h
   ·rename_i x y t Y v w j z;have A:args= #[x,y]:=by rw[<-j]
    have n:F= #[t,Y]:=by rw[<-z]
    subst A;subst n;simp only[Op.operands,Call.operands] at a;simp at a;exact OL q B p a.1.symm a.2.symm h b
   cases h
  ·exact D (r:=none) a h
  cases h
 exact D (r:=none) a h
def VV:V->List Nat
 | .ref id _=>[id]
 | .aN id _ _ _ _=>[id]
 | .cd id _ _ _ _=>[id]
 |_=>[]
def Am:List V->List Nat
 | []=>[]
 |v::a=>VV v++Am a
def HW:List bV->List Nat
 | .nat k::a=>k::HW a
 |_=>[]
def VU:List bV->List Nat
 | .b true::c=>HW c
 | .nat k::_=>[k]
 | .int _:: .nat k::_=>[k]
 | .ec L a _ _::_=>L++a
 | .lt k _ _::_=>[k]
 |_=>[]
def gn(k:Nat):List Nat->Bool
 | []=>false
 |x::l=>bif Nat.beq x k then true else gn k l
theorem x8{k:Nat}: ∀{l:List Nat},gn k l=true->k∈l
 | [],h=>by cases h
 |x::l,h=>by
  simp only[gn] at h;cases a:Nat.beq x k with
  |true=>rw[ca a];exact ep
  |false=>rw[a] at h;exact dU _ (x8 h)
def pV(a:List Nat)(H:Nat->Option E):Nat->Option E:=λk=>bif gn k a then H k else none
def pU(a:List Nat)(u:Nat->Bool):Nat->Bool:=λk=>bif gn k a then u k else true
theorem Nc{H:Nat->Option E}{e:E}(h:pV r H k=some e):H k=some e:=by
 unfold pV at h
 grind
theorem LW(h:pU r u k=false):u k=false:=by
 unfold pU at h
 grind
def TG:Op->List V->Bool
 | .nilCheck _,[.cd _ _ _ _ _]=>false
 | .move _,_| .assign _,_| .pick _ _ _,_| .nilCheck _,_| .binOp _ _ _ _ _,_| .unOp _ _ _,_| .convert _ _ _,_| .makeFunc _ _ _,_| .extract _ _,_| .field _ _ _,_| .build _ _,_=>true
 | .fieldAddr _ _ _,[.ref _ _]=>true
 |_,_=>false
def TD:Op->Bool
 | .load _ _| .slice _ _ _ _ _| .fieldAddr _ _ _| .indexAddr _ _ _| .index _ _ _| .nilCheck _=>true
 | .call c=>match c.callee with
  | .builtin .len=>true
  | .builtin .max=>true
  | .builtin .min=>true
  |_=>false
 |_=>false
def qv(o:Oper)(a:List V)(b:List bV):List Nat:=match TG o.op a with
 |true=>[]
 |false=>match TD o.op with
  |true=>Am a
  |false=>Am a++VU b
def mQ(C:dc)(o:Oper)(a:List V)(s:S)(b:List bV):gN:=AD C o a (pV (qv o a b) s.H) (pU (qv o a b) s.u) b
def Bt:Bool->Bool->Bool
 |true,true=>true
 |false,false=>true
 |_,_=>false
def ql(a:Array Oper)(j:Nat)(s:S):Option V:=match (a[j]?).bind (·.dst) with
 |some t=>some (s.t t)
 |none=>none
def ov(C:dc)(h:Array Oper)(o:Oper)(a:List bV)(s:S):gN:=
 match o.guard with
 |none=>mQ C o (o.op.operands.toList.map s.get) s a
 |some (j,c)=>match ql h j s with
  |some (.bG [])=>match hN C.nt o.dst with
   |true=>some (⟨ev o.dst (.bG []),[],[]⟩,[],a)
   |false=>none
  |some (.t (.bool b))=>match a with
   | .b w::a=>match Bt w c with
    |true=>match mQ C o (o.op.operands.toList.map s.get) s a with
     |some (e,i,a)=>some (e,.p (b=w)::i,a)
     |none=>none
    |false=>match hN C.nt o.dst with
     |true=>some (⟨ev o.dst (.bG []),[],[]⟩,[.p (b=w)],a)
     |false=>none
   |_=>none
  |_=>none
end
structure dc.Fits (C:dc) (K:Ctx):Prop where
 T:dm K.P C.bQ
 P:C.P=K.P
 G:C.G=K.G
 nt:C.nt=K.nt
 cE:C.cE=K.cE
 gd:C.gd=K.gd
section
variable {K:Ctx}{s:S}{C:dc}
theorem Gl(a:C.Fits K)(h:mQ C o (o.op.operands.toList.map s.get) s i=some (e,c,b))(k:bS c):dj K o s (e.app s):=
 Th a.T a.P a.G a.nt a.cE rfl (λ_ _ h=>Nc h) (λ_ h=>LW h) h k
theorem P2{w v:Bool}(h:Bt w v=true):w=v:=by cases w<;>cases v<;>first|rfl|cases h
theorem Oz{w v:Bool}(h:Bt w v=false):w= !v:=by cases w<;>cases v<;>first|rfl|cases h
theorem Fs{b:Array Oper}{j:Nat}(h:ql b j s=some v): ∃t,(b[j]?).bind (·.dst)=some t/\s.t t=v:=by
 unfold ql at h
 grind
theorem Gj(q:C.Fits K){c:Array Oper}{k:List bV}(h:ov C c o k s=some (e,m,i))(a:bS m):gf K c o s (e.app s):=by
 unfold ov at h;split at h
 ·rename_i n;exact gf.of n (Gl q h a)
 rename_i j z n;split at h
 ·rename_i l;obtain⟨t,r,v⟩:=Fs l;split at h
  ·rename_i x;cases h;rw[ln];exact gf.skip n r v (fx (q.nt▸x))
  cases h
 ·rename_i b l;obtain⟨t,r,v⟩:=Fs l;split at h
  ·rename_i w k;split at h
   ·rename_i hw;have hw:=P2 hw;subst hw;split at h
    ·rename_i D A B y;cases h;obtain⟨rfl,p⟩:=a;exact gf.eu n r v (Gl q y p)
    cases h
   rename_i hw;have hw:=Oz hw;subst hw;split at h
   ·rename_i x;cases h;obtain⟨rfl,_⟩:=a;rw[ln];exact gf.out n r v (fx (q.nt▸x))
   cases h
  cases h
 cases h
theorem SQ{b:Array Oper}{l:List Oper}{c:S}{Q:S->Prop}(h:gf K b o s c)(m:mF K b l c Q):mF K b (o::l) s Q:=
 λβ a w e n p=>h β a w (wpList K.P b e l) e n λi q r k=>m i q r e k p
end
end Go.Lift
