/- Tools. -/
import Derived.Test.YtcihigfifglboabGreatGLiftTV
namespace Go.Lift
open Go
section
variable {P:Program} {cb:List (Nat×cj)} {H:Nat->Option E} {d:Option Tmp} {ty:TypeId} {pos:String} {af:Array Edge} {g:Option (Nat×Bool)}
variable {t:TypeId} {u:TypeDesc} {z:Value} {size bytes:Nat}
theorem AN(a:BinOp)(e:N1 a=true)(x y:Operand)(t h:TypeId)(k:IntKind)(m n:Int):b9 P H ⟨d,.binOp a t x y h,ty,pos,af,g⟩ [.t (.int k m),.t (.int k n)] (.t (.int k (bits a k m n))):=by
 intro i w X l _ c;refine⟨Value.int k (bits a k m n),?_,.t _ _ (.int k _)⟩;cases a<;>simp[N1] at e<;>
  simp[execOp,dD c.1,dD c.2.1,eqGuard,binOp,intBits_and,intBits_or,intBits_xor,intBits_andNot]
theorem Z4(x y:Operand)(t c:TypeId)(m n:List UInt8):b9 P H ⟨d,.binOp .lss t x y c,ty,pos,af,g⟩ [.t (.str m),.t (.str n)] (.t (.bool (Op.bytesLess m n))):=by intro e w X h _ a;refine⟨.bool (Op.bytesLess m n),?_,.t _ _ (.bool _)⟩;simp[execOp,gX a.1,gX a.2.1,eqGuard,binOp,Op.stringOp]
theorem Z6(x y:Operand)(t c:TypeId)(m n:List UInt8):b9 P H ⟨d,.binOp .gtr t x y c,ty,pos,af,g⟩ [.t (.str m),.t (.str n)] (.t (.bool (!Op.bytesLess m n&& !m==n))):=by intro e w X h _ a;refine⟨.bool (!Op.bytesLess m n&& !m==n),?_,.t _ _ (.bool _)⟩;simp[execOp,gX a.1,gX a.2.1,eqGuard,binOp,Op.stringOp]
theorem Z5(x y:Operand)(t c:TypeId)(m n:List UInt8):b9 P H ⟨d,.binOp .leq t x y c,ty,pos,af,g⟩ [.t (.str m),.t (.str n)] (.t (.bool (Op.bytesLess m n||m==n))):=by intro e w X h _ a;refine⟨.bool (Op.bytesLess m n||m==n),?_,.t _ _ (.bool _)⟩;simp[execOp,gX a.1,gX a.2.1,eqGuard,binOp,Op.stringOp]
theorem abn(x:Operand)(t:TypeId)(k:IntKind)(n:Int):b9 P H ⟨d,.unOp .neg t x,ty,pos,af,g⟩ [.t (.int k n)] (.t (.int k (k.wrap (0-n)))):=by intro c w X e _ a;refine⟨.int k (k.wrap (0-n)),?_,.t _ _ (.int _ _)⟩;simp[execOp,dD a.1,Op.unary,Op.intArith]
theorem T6(x:Operand)(f:FuncId)(a:List V):b9 P H ⟨d,.nilCheck x,ty,pos,af,g⟩ [.fn f a] (.fn f a):=by intro h w X c _ i;have e:bn h w X (.fn f a) (c x):=i.1;refine⟨c x,?_,e⟩;generalize k:c x=y at e;cases e with|fn=>simp[execOp,k]
variable {a v b:V}{x y:Operand}{i k:TypeId}{m e r:List dd}{n l c p q U:List ct}{D:Map}{w:World}{X:Nat->Prop}
theorem Yl{a:BinOp}{t:TypeId}{k:IntKind}{m n:Int}(h:GI a k m n l=some (v,e,c))(o:ch e):
  b9 P H ⟨d,.binOp a t x y i,ty,pos,af,g⟩ [.t (.int k m),.t (.int k n)] v:=by
 cases a<;>simp only[GI,Ol,Option.some.injEq,Prod.mk.injEq,reduceCtorEq] at h<;>obtain⟨rfl,rfl,rfl⟩:=h
 ·exact aby _ _ _ _ _ _ _
 ·exact abi _ _ _ _ _ _ _
 ·exact abo _ _ _ _ _ _ _
 ·exact abk _ _ _ _ _ _ _ o.1
 ·exact abj _ _ _ _ _ _ _ o.1
 ·exact AN .and rfl _ _ _ _ _ _ _
 ·exact AN .or rfl _ _ _ _ _ _ _
 ·exact AN .xor rfl _ _ _ _ _ _ _
 ·exact AN .andNot rfl _ _ _ _ _ _ _
 ·exact abw _ _ _ _ _ _ _
 ·exact abm _ _ _ _ _ _ _
 ·exact abr _ _ _ _ _ _ _
 ·exact abt _ _ _ _ _ _ _
 ·exact abu _ _ _ _ _ _ _
 exact abv _ _ _ _ _ _ _
theorem Yg{a:BinOp}{t:TypeId}{m n:List UInt8}(h:GC a m n l=some (v,e,c))(k:ch e):
  b9 P H ⟨d,.binOp a t x y i,ty,pos,af,g⟩ [.t (.str m),.t (.str n)] v:=by
 unfold GC at h;split at h<;>cases h
 ·obtain⟨o,rfl⟩:=Y8 k.1;exact abx _ _ _ _ _ _ o
 ·exact Z8 _ _ _ _ _ _
 ·exact Z3 _ _ _ _ _ _
 ·exact Z7 _ _ _ _ _ _
 ·exact Z4 _ _ _ _ _ _
 ·exact Z6 _ _ _ _ _ _
 exact Z5 _ _ _ _ _ _
theorem Lw(a:dT P cb)(h:Gc (dw cb t)=true):P.underlying t=some .bool:=by
 unfold Gc at h;split at h
 ·rename_i i c;split at h
  ·rename_i e;exact(a _ _ c).ic.1 e
  cases h
 cases h
theorem EV(a:dT P cb)(h:wM (dw cb t)=true):P.underlying t=some .string:=by
 unfold wM at h;split at h
 ·rename_i i c;split at h
  ·rename_i e;exact(a _ _ c).ic.2.2.1 e
  cases h
 cases h
theorem zP(a:dT P cb)(h:wX (dw cb t)=true): ∃e,P.underlying t=some (.slice e):=by
 unfold wX at h;split at h
 ·rename_i i c;split at h
  ·rename_i e k;exact⟨e,(a _ _ c).ic.2.2.2 e k⟩
  cases h
 cases h
theorem vK{u:Value}(h:bn D w X (.t .gp) u):u= .nilIface:=by cases h with|t _ _ h=>cases h with|gp=>rfl
theorem NJ{u:Value}(h:bn D w X (.t .err) u): ∃t v,u= .iface t v:=by cases h with|t _ _ h=>cases h with|err t v=>exact⟨t,v,rfl⟩
theorem R8(w:World)(n:Nat){ms}(a:TypeId)(b:Value)(c:P.underlying t=some (.interface ms)):(Op.equalIn (n+1) t (.iface a b) .nilIface).run P w= .ok false w:=by simp[Op.equalIn,run_underlying c]
theorem RJ(w:World)(n:Nat){ms}(a:P.underlying t=some (.interface ms)):(Op.equalIn (n+1) t .nilIface .nilIface).run P w= .ok true w:=by simp[Op.equalIn,run_underlying a]
theorem LI(w:World){ms}(a:TypeId)(b:Value)(c:P.underlying t=some (.interface ms)):(Op.equal t (.iface a b) .nilIface).run P w= .ok false w:=R8 w 9999 a b c
theorem KY(w:World){ms}(a:P.underlying t=some (.interface ms)):(Op.equal t .nilIface .nilIface).run P w= .ok true w:=RJ w 9999 a
theorem VW(a b):binOp .eql t (.iface a b) .nilIface=(do pure (.bool (<-Op.equal t (.iface a b) .nilIface))):=rfl
theorem VV(a b):binOp .neq t (.iface a b) .nilIface=(do pure (.bool (!(<-Op.equal t (.iface a b) .nilIface)))):=rfl
theorem Wq:binOp .eql t .nilIface .nilIface=(do pure (.bool (<-Op.equal t .nilIface .nilIface))):=rfl
theorem Wp:binOp .neq t .nilIface .nilIface=(do pure (.bool (!(<-Op.equal t .nilIface .nilIface)))):=rfl
theorem LJ(w:World)(o:BinOp)(x y:Operand)(a:(o9 x||o9 y)=true):(eqGuard o t x y .nilIface .nilIface).run P w= .ok () w:=by cases x<;>cases y<;>simp[o9] at a<;>simp[eqGuard]<;>split<;>simp
theorem aac(x y:Operand)(e:TypeId){ms}(h:P.underlying t=some (.interface ms)):b9 P H ⟨d,.binOp .eql t x y e,ty,pos,af,g⟩ [.t .err,.t .gp] (.t (.bool false)):=by intro k w X l _ c;obtain⟨a,b,i⟩:=NJ c.1;refine⟨.bool false,?_,.t _ _ (.bool _)⟩;simp[execOp,i,vK c.2.1,eqGuard,VW,LI w a b h]
theorem aab(x y:Operand)(e:TypeId){ms}(h:P.underlying t=some (.interface ms)):b9 P H ⟨d,.binOp .neq t x y e,ty,pos,af,g⟩ [.t .err,.t .gp] (.t (.bool true)):=by intro k w X l _ c;obtain⟨a,b,i⟩:=NJ c.1;refine⟨.bool true,?_,.t _ _ (.bool _)⟩;simp[execOp,i,vK c.2.1,eqGuard,VV,LI w a b h]
theorem Z'(x y:Operand)(c:TypeId){ms}(e:P.underlying t=some (.interface ms))(h:(o9 x||o9 y)=true):b9 P H ⟨d,.binOp .eql t x y c,ty,pos,af,g⟩ [.t .gp,.t .gp] (.t (.bool true)):=by intro i w X k _ a;refine⟨.bool true,?_,.t _ _ (.bool _)⟩;simp[execOp,vK a.1,vK a.2.1,LJ w _ x y h,Wq,KY w e]
theorem Z9(x y:Operand)(c:TypeId){ms}(e:P.underlying t=some (.interface ms))(h:(o9 x||o9 y)=true):b9 P H ⟨d,.binOp .neq t x y c,ty,pos,af,g⟩ [.t .gp,.t .gp] (.t (.bool false)):=by intro i w X k _ a;refine⟨.bool false,?_,.t _ _ (.bool _)⟩;simp[execOp,vK a.1,vK a.2.1,LJ w _ x y h,Wp,KY w e]
theorem zQ{a:List (Nat×cj)}(e:dT P a)(h:GM (dw a t)=true): ∃ms,P.underlying t=some (.interface ms):=by
 unfold GM at h;split at h
 ·rename_i i k;split at h
  ·rename_i l;obtain⟨u,n,c⟩:=e _ _ k;simp only[cj.is,l] at c;obtain⟨m,rfl⟩:=c;exact⟨m,n.1⟩
  cases h
 cases h
theorem Ym{e:List (Nat×cj)}(q:dT P e){i:BinOp}(h:GJ e i t x y a b l=some (v,m,c)):
  b9 P H ⟨d,.binOp i t x y k,ty,pos,af,g⟩ [a,b] v:=by
 unfold GJ at h;split at h
 ·rename_i n p;obtain⟨ms,o⟩:=zQ q n;cases h;exact aac _ _ _ o
 ·rename_i n p;obtain⟨ms,o⟩:=zQ q n;cases h;exact aab _ _ _ o
 ·rename_i n p;obtain⟨ms,o⟩:=zQ q n;cases h;exact Z' _ _ _ o p
 ·rename_i n p;obtain⟨ms,o⟩:=zQ q n;cases h;exact Z9 _ _ _ o p
 cases h
theorem Sg(w:World)(n:Nat){e}(a:Addr)(l c:Nat)(h:P.underlying t=some (.slice e)):(Op.equalIn (n+1) t (.slice (some a) l c) (.slice none 0 0)).run P w= .ok false w:=by simp[Op.equalIn,run_underlying h]
theorem Yd(w:World){e}(a:Addr)(l c:Nat)(h:P.underlying t=some (.slice e)):(Op.equal t (.slice (some a) l c) (.slice none 0 0)).run P w= .ok false w:=Sg w 9999 a l c h
theorem Y'(a:Addr)(l c:Nat):binOp .eql t (.slice (some a) l c) (.slice none 0 0)=(do pure (.bool (<-Op.equal t (.slice (some a) l c) (.slice none 0 0)))):=rfl
theorem YS(x y:Operand)(n:TypeId)(i:List (List T)){e}(o:P.underlying t=some (.slice e))(p:i≠[]):b9 P H ⟨d,.binOp .eql t x y n,ty,pos,af,g⟩ [.t (.aD i),.t .fj] (.t (.bool false)):=by
 intro C w X k _ m;obtain⟨a,l,c,q⟩: ∃a l c,k x= .slice (some a) l c:=by
  cases m.1 with|t _ _ h=>
  generalize r:k x=u at h;cases h with
  |fO=>exact bA rfl p
  |aD _ b s size A f=>exact⟨_,_,_,rfl⟩
 have B:k y= .slice none 0 0:=by
  cases m.2.1 with|t _ _ h=>
  generalize r:k y=u at h;cases h;rfl
 refine⟨.bool false,?_,.t _ _ (.bool _)⟩;simp[execOp,q,B,eqGuard,Y',Yd w a l c o]
theorem Yh{i:List (Nat×cj)}(p:dT P i){k:BinOp}{l:TypeId}(h:GD i k t a b n=some (v,m,c))(o:ch m):
  b9 P H ⟨d,.binOp k t x y l,ty,pos,af,g⟩ [a,b] v:=by
 unfold GD at h;split at h
 ·rename_i q;obtain⟨e,r⟩:=zP p q;cases h;exact YS _ _ _ _ r o.1
 cases h
theorem T9(x y:Operand)(e n c a k:Nat){u:TypeDesc}{z:Value}{i L:Nat}(m:P.underlying t=some (.array n e))(o:cd P e u z i L)(r:k<n):
  b9 P H ⟨d,.indexAddr t x y,ty,pos,af,g⟩ [.ref c a,.t (.int .i64 (k:Int))] (.ref c (a+k*i)):=by intro s w X A B l;have cG:=dD l.2.1;obtain⟨b,p,q⟩:=rh l.1;refine⟨.pointer (some ⟨b,a+k*i,none⟩),?_,.ref _ _ _ p⟩;simp[execOp,q,cG,Instr.indexAt,asIntOf,run_underlying m,o.run_sizeOf,iU,Instr.sureAddr];intro h;omega
theorem Yb(A:dT P cb){i:BinOp}{t:TypeId}(h:GA P cb i t a b c=some (v,e,l))(m:ch e):
  b9 P H ⟨d,.binOp i t x y k,ty,pos,af,g⟩ [a,b] v:=by
 unfold GA at h;split at h
 ·split at h
  ·rename_i B;subst B;exact Yl h m
  cases h
 ·exact Yg h m
 ·split at h
  ·rename_i n;cases h;exact aae _ _ _ _ _ (Lw A n)
  ·rename_i n;cases h;exact aad _ _ _ _ _ (Lw A n)
  cases h
 ·split at h
  ·rename_i ms o b c p q;cases h;obtain⟨r,s,w,_⟩:=m;rw[yN p,yN q,<-w];exact XT _ _ _ _ ms o r aX (by simp[s])
  ·rename_i ms o b c p q;cases h;obtain⟨r,s,w,_⟩:=m;rw[yN p,yN q,<-w];exact XR _ _ _ _ ms o r aX (by simp[s])
  cases h
 cases h
theorem Zg{e:UnOp}(h:GU e a l=some (v,m,c)):
  b9 P H ⟨d,.unOp e t x,ty,pos,af,g⟩ [a] v:=by
 unfold GU at h;split at h<;>cases h
 ·exact abl _ _ _
 exact abn _ _ _ _
theorem UM(k:dT P cb){i:cj}(l:dw cb t=some i)(h:Fp cb (some i)=true): ∃e,P.underlying t=some (.slice e)/\P.underlying e=some (.int .u8):=by
 unfold Fp at h;split at h
 ·rename_i o a;cases a;split at h
  ·rename_i e m;split at h
   ·rename_i j n;split at h
    ·rename_i c;exact⟨e,(k _ _ l).ic.2.2.2 e m,(k _ _ n).ic.2.1 _ c⟩
    cases h
   cases h
  cases h
 cases h
theorem WO(y:dT P cb){c o:TypeId}(h:Gi cb c o a p=some (v,r,q))(s:ch r):
  b9 P H ⟨d,.convert c o x,ty,pos,af,g⟩ [a] v:=by
 unfold Gi at h;split at h
 ·rename_i i j D F;split at h
  ·rename_i I k n m p A;cases h;obtain⟨G,w,_⟩:=y _ _ D;have B:I.wrap n=m:=s.1;rw[<-B];exact NY _ _ _ _ _ G _ w.1 ((y _ _ F).ic.2.1 _ A)
  ·rename_i k n m p A;cases h;have B:UInt8.ofInt n=m:=s.1;rw[<-B];obtain⟨G,w,_⟩:=y _ _ D
   have:=NY (P:=P) (H:=H) (d:=d) (ty:=ty) (pos:=pos) (af:=af) (g:=g) x c o k .u8 G n w.1 ((y _ _ F).ic.2.1 _ A);rw[M8] at this;exact this
  ·rename_i C l p A;split at h
   ·rename_i K;cases h;have B:C=l.map np:=s.1;obtain⟨e,L,Q⟩:=UM y D K;rw[B];exact Ua _ _ _ _ _ L Q ((y _ _ F).ic.2.2.1 A)
   cases h
  cases h
 cases h
theorem TA(x:Operand)(r gen i a:Nat)(s:TypeId)(sz:Nat)(k:List (List T))(e:List T)(K:cd P t u z size bytes)(L:kh u=true)(D:H r=some (.arr s gen sz k))(o:k[i]? =some e)(S:a+size<=e.length):
  b9 P H ⟨d,.load t x,ty,pos,af,g⟩ [.cB r gen sz i a] (.agg (((e.drop a).take size).map .t)):=by
 intro V w X ρ F Q;obtain⟨q,G⟩:=i' (F r _ D);obtain⟨b,y,R⟩:=om Q.1 G;subst y;have a8:=G;rcases(F r _ D).2 with ⟨A,B⟩|⟨ga,C,A,B,h3,U,W⟩
 ·rw[B] at o;simp at o
 rw[a8] at A;cases A;have Y:i<k.length:=(bR.1 o).1;have f:e.length=sz:=U e (bF o);have p: ∀j,j<size->i*sz+a+j<C.size:=by
  intro j n
  have:(i+1)*sz<=k.length*sz:=dx _ Y;rw[dj] at this;omega
 have l: ∀j,j<size->w.cell? ⟨b,i*sz+a+j,none⟩=some (C.getD (i*sz+a+j) undef):=λj n=>by
  have:=p j n;simp[World.cell?,B,this]
 refine⟨_,by simp[execOp,R,Instr.loadAt,Instr.sureAddr,K.CH w L l];rfl,?_⟩;refine .agg _ _ bQ λj c v h I=>?_;have n:j<size:=by
  have:=(bR.1 h).1;simp at this;omega
 rw[et,C5 n,fP] at h;simp only[List.getElem?_toArray,List.getElem?_map,List.getElem?_range n,Option.map_some,Option.some.injEq] at I;cases m:e[a+j]? with
 |none=>rw[m] at h;simp at h
 |some M=>
  rw[m] at h;simp at h;rw[<-h]
  have:=p j n;have N:=W i (a+j) e M C[i*sz+a+j] o m (by rw[<-pE];simp[this]);rw[<-I];simp only[Array.getElem?_eq_getElem this,Option.getD_some];exact .t _ _ N
theorem LH(G:dT P cb)(h:tr cb H t a l=some (v,e,n))(w:ch e):
  b9 P H ⟨d,.load t x,ty,pos,af,g⟩ [a] v:=by
 unfold tr at h;split at h
 ·cases h
 rename_i i I;obtain⟨K,q,m⟩:=(G _ _ I).agg;split at h
 ·rename_i id B;split at h
  ·rename_i cs s;split at h
   ·rename_i o;split at h
    ·rename_i p;cases h;exact YT _ _ _ _ q (m.trans o) s p
    cases h
   rename_i o;split at h
   ·rename_i c C;cases h;exact YU _ _ _ _ _ q (m.trans o) s C
   cases h
  cases h
 ·rename_i cs;split at h
  ·rename_i o;split at h
   ·rename_i p;cases h;exact U3 _ _ q (m.trans o) (ea p)
   cases h
  rename_i o;split at h
  ·cases h;exact U4 _ _ _ q (m.trans o)
  cases h
 ·rename_i id gen L k B;split at h
  ·rename_i y D A r l s o;split at h
   ·rename_i c C;cases h;obtain⟨rfl,rfl,F,_⟩:=w;exact TB _ _ _ _ _ _ _ _ _ _ q (m.trans o) s F C
   cases h
  ·rename_i y D A r l s o;split at h
   ·rename_i p;cases h;obtain⟨rfl,rfl,F,_⟩:=w;exact TA _ _ _ _ _ _ _ _ _ q (m.trans o) s F (ea p)
   cases h
  cases h
 cases h
theorem KB{j:Nat}: ∀{c:List (Nat×Nat×V)},rD j c=none-> ∀i v,(i,j,v)∉c
 | [],_,_,_,h=>by cases h
 |h::c,a,i,v,hm=>by
  simp only[rD] at a;cases e:Nat.beq h.2.1 j with
  |true=>rw[e] at a;cases a
  |false=>
   rw[e] at a;rcases dN.1 hm with rfl|hm
   ·simp at e
   exact KB a i v hm
theorem En{j:Nat}{x:Nat×V}: ∀{c:List (Nat×Nat×V)},rD j c=some x->(x.1,j,x.2)∈c
 |h::c,a=>by
  simp only[rD] at a;cases e:Nat.beq h.2.1 j with
  |true=>
   rw[e] at a;cases a
   have:=cK e;subst this;exact eR
  |false=>rw[e] at a;exact ev _ (En a)
theorem yR{U:List (Nat×Nat×V)}{k:Nat}: ∀{n j:Nat} {l:List (Nat×V)},rz U j n=some l->ch (rG k l)->l.length=n/\ ∀i v,(l.map (·.2))[i]? =some v->(k,j+i,v)∈U
 |0,_,_,h,_=>by cases h;exact⟨rfl,λi v h=>by simp at h⟩
 |n+1,j,l,h,a=>by
  simp only[rz] at h;split at h
  ·rename_i x p m o;cases h;simp only[rG] at a;obtain⟨e,a⟩:=a;obtain⟨aJ,a2⟩:=yR o a;refine⟨by simp[aJ],λi v c=>?_⟩;cases i with
   |zero=>
    simp at c;subst c
    have:=En m;rw[e] at this;exact this
   |succ i=>
    have:=a2 i v (by simpa using c)
    rwa [show j+1+i=j+(i+1) by omega] at this
  cases h
theorem Vz(R:dT P cb){Q:List ct}{f:List dd}(h:FL cb H t a Q=some (v,f,U))(o:ch f):
  b9 P H ⟨d,.load t x,ty,pos,af,g⟩ [a] v:=by
 unfold FL at h;split at h
 ·rename_i i id gen M k I r Q K;obtain⟨N,y,n⟩:=(R _ _ K).agg;split at h
  ·rename_i A m B e L C;split at h
   ·rename_i w;split at h
    ·rename_i c D F;split at h
     ·rename_i W;cases h;obtain⟨rfl,p,s,_⟩:=o;exact C7 _ _ _ _ _ A m _ e L r c _ y (n.trans w) C p s D (.inr ⟨λv=>KB F _ _,W,rfl⟩)
     cases h
    ·rename_i c S T D F;cases h;obtain⟨rfl,p,s,rfl,_⟩:=o;exact C7 _ _ _ _ _ A m _ e _ r c _ y (n.trans w) C p s D (.inl (En F))
    cases h
   rename_i w;split at h
   ·rename_i l X F;cases h;obtain⟨rfl,p,s,G⟩:=o;obtain⟨Y,b⟩:=yR F G;exact JM _ _ _ _ _ A m _ e L r _ y (n.trans w) C p s (ea X) (by simp[Y]) b
   cases h
  cases h
 ·rename_i i id gen M k I q r Q K;obtain⟨N,y,n⟩:=(R _ _ K).agg;split at h
  ·rename_i A m B e L C;split at h
   ·rename_i c S cV T w D G;cases h;obtain⟨rfl,p,s,rfl,rfl,_⟩:=o;exact C7 _ _ _ _ _ A m _ e _ r c _ y (n.trans w) C p s D (.inl (bF G))
   ·rename_i w;split at h
    ·rename_i l X F;cases h;obtain⟨rfl,p,s,G⟩:=o;obtain⟨Y,b⟩:=yR F G;exact JM _ _ _ _ _ A m _ e L r _ y (n.trans w) C p s (ea X) (by simp[Y]) λj v bJ=>eV (b j v bJ)
    cases h
   cases h
  cases h
 ·rename_i i id gen M k I q r Q K;obtain⟨N,y,n⟩:=(R _ _ K).agg;split at h
  ·rename_i A m B e L C;split at h
   ·rename_i c w D W;cases h;obtain⟨rfl,p,s,G⟩:=o;exact C7 _ _ _ _ _ A m _ e _ r c _ y (n.trans w) C p s D (.inr ⟨wv G,W,rfl⟩)
   cases h
  cases h
 cases h
theorem VB(C:dT P cb){k:Nat}(h:FN cb H t k a l=some (v,m,c))(r:ch m):
  b9 P H ⟨d,.fieldAddr t x k,ty,pos,af,g⟩ [a] v:=by
 unfold FN at h;split at h
 ·cases h
 rename_i i G;split at h
 ·rename_i Q I;obtain⟨s,y,A,_⟩:=(C _ _ G).st I;have w:P.underlying t=some (.struct s):=y.1;split at h
  ·cases h
  rename_i D n;rw[<-A,et] at n;cases q:s[k]? with
  |none=>rw[pF,q] at n;cases n
  |some K=>
  rw[pF,q] at n;simp only[Option.map_some,Option.some.injEq] at n;subst n;split at h
  ·cases h
  rename_i j L;obtain⟨R,o,_⟩:=C _ _ L;split at h
  ·cases h
  rename_i F;have p:(j.size==0)=false:=by
   rw[beq_eq_false_iff_ne];intro e;rw[e] at F;cases F
  split at h
  ·cases h;exact T' _ _ _ _ _ _ _ _ _ _ _ w q rfl o p
  ·cases h;exact U7 _ _ _ _ _ _ _ _ _ _ w q rfl o p
  ·split at h
   ·rename_i B;cases h;obtain⟨rfl,rfl,_⟩:=r;exact TD _ _ _ _ _ _ _ _ _ _ _ _ _ _ w q rfl o p _ _ B
   ·rename_i B;cases h;obtain⟨rfl,_⟩:=r;exact TE _ _ _ _ _ _ _ _ _ _ _ _ _ _ w q rfl o p _ B rfl
   cases h
  cases h
 cases h
theorem Yp(y:dT P cb){k:Nat}(h:GL cb t k a l=some (v,e,c)):
  b9 P H ⟨d,.field t x k,ty,pos,af,g⟩ [a] v:=by
 unfold GL at h;split at h
 ·cases h
 rename_i i B;split at h
 ·rename_i K C;obtain⟨r,n,s,_⟩:=(y _ _ B).st C;split at h
  ·cases h
  rename_i A m;rw[<-s,et] at m;cases q:r[k]? with
  |none=>rw[pF,q] at m;cases m
  |some D=>
  rw[pF,q] at m;simp only[Option.map_some,Option.some.injEq] at m;subst m;split at h
  ·cases h
  rename_i j F;obtain⟨L,o,p⟩:=(y _ _ F).agg;split at h
  ·split at h
   ·rename_i w;split at h
    ·rename_i G;cases h;exact Mc _ _ _ _ _ _ n q o (.inl ⟨p.trans w,G,rfl⟩)
    cases h
   rename_i w;split at h
   ·rename_i I;cases h;exact Mc _ _ _ _ _ _ n q o (.inr ⟨p.trans w,I⟩)
   cases h
  cases h
 cases h
theorem iS{n:Int}(h:0<=n):n=((n.toNat:Nat):Int):=O
theorem Yn(I:dT P cb){o:List dd}(h:GK cb H t a b c=some (v,o,l))(q:ch o):
  b9 P H ⟨d,.indexAddr t x y,ty,pos,af,g⟩ [a,b] v:=by
 unfold GK at h;split at h
 ·cases h
 rename_i i X;split at h
 ·rename_i e K;have B:P.underlying t=some (.slice e):=(I _ _ X).ic.2.2.2 e K;split at h
  ·cases h
  rename_i j L;obtain⟨Y,C,_⟩:=I _ _ L;split at h
  ·rename_i p n;split at h
   ·rename_i r c;split at h
    ·rename_i w;cases h;obtain⟨D,Q⟩:=mu (show au p n=some r from q.1);rw[iS D];exact U6 _ _ _ _ _ _ B C Q (cK w)
    cases h
   cases h
  ·rename_i id gen size A len n;split at h
   ·rename_i s f p R w;cases h;obtain⟨rfl,rfl,⟨D,Q⟩,_⟩:=q;have U:n.toNat<len:=O
    have:=cK w;subst this;have F:=T8 (P:=P) (H:=H) (d:=d) (ty:=ty) (pos:=pos) (af:=af) (g:=g) x y e id s A len n.toNat _ _ R B C U;rw[<-iS D] at F;exact F
   ·rename_i m s p M R w;cases h;obtain⟨rfl,⟨D,Q⟩,_⟩:=q;have U:n.toNat<len:=O
    have:=cK w;subst this;have F:=TC (P:=P) (H:=H) (d:=d) (ty:=ty) (pos:=pos) (af:=af) (g:=g) x y e id _ A len n.toNat _ R rfl B C U;rw[<-iS D] at F;exact F
   cases h
  cases h
 ·rename_i m e K;obtain⟨N,W,G⟩:=I _ _ X;have B:P.underlying t=some (.array m e):=by
   simp only[cj.is,K] at G;rw[<-G];exact W.1
  split at h
  ·cases h
  rename_i j L;obtain⟨Y,C,_⟩:=I _ _ L;split at h
  ·rename_i id A n k c;split at h
   ·rename_i w;cases h;rw[show n=(k:Int) from q.1];exact T9 _ _ _ _ _ _ _ B C (ea w)
   cases h
  cases h
 cases h
theorem VA(k:dT P cb)(h:FM cb t a b q=some (v,e,p))(i:ch e):
  b9 P H ⟨d,.index t x y,ty,pos,af,g⟩ [a,b] v:=by
 unfold FM at h;split at h
 ·rename_i l n c q m;cases h;obtain⟨o,r⟩:=mu (show au l n=some c from i.1);rw[iS o];exact WE _ _ _ _ _ (EV k m) r
 cases h
theorem Yk(o:dT P cb)(h:GH cb H t a l=some (v,m,c))(i:ch m):
  b9 P H ⟨d,.call {callee:= .builtin .len,args:= #[x],argTypes:= #[t]},ty,pos,af,g⟩ [a] v:=by
 unfold GH at h;split at h
 ·split at h
  ·rename_i k;cases h;exact Wz _ _ (EV o k)
  cases h
 ·split at h
  ·rename_i k;cases h;obtain⟨e,n⟩:=zP o k;have q:=i.1;rw[<-q];exact XS _ _ _ n
  cases h
 ·split at h
  ·rename_i p k;cases h;obtain⟨rfl,rfl,rfl,_⟩:=i;obtain⟨e,n⟩:=zP o k;exact WA _ _ _ _ _ _ _ n _ _ p
  ·rename_i p k;cases h;obtain⟨rfl,rfl,_⟩:=i;obtain⟨e,n⟩:=zP o k;exact U5 _ _ _ _ _ _ _ n _ p rfl
  cases h
 cases h
theorem Vy(G:dT P cb){y A:Option Operand}{B:List V}{N:List ct}{lZ:List dd}(h:FK cb H t y A B U=some (v,lZ,N))(n:ch lZ):
  b9 P H ⟨d,.slice t x y A none,ty,pos,af,g⟩ B v:=by
 unfold FK at h;split at h
 ·rename_i l Y;split at h
  ·rename_i a b r U S c;cases h;obtain⟨k,T,f,rfl⟩:=zH n.1;have p:=EV G S;unfold rE at c;split at c
   ·cases c;rw[iS k,iS (O:0<=b)];exact Up _ _ _ _ _ _ p O O
   ·cases c
    have:=RT (P:=P) (H:=H) (d:=d) (ty:=ty) (pos:=pos) (af:=af) (g:=g) x ‹_› l a.toNat p O;rw[<-iS k] at this;simpa using this
   ·cases c
    have:=Sh (P:=P) (H:=H) (d:=d) (ty:=ty) (pos:=pos) (af:=af) (g:=g) x ‹_› l b.toNat p O;rw[<-iS (O:0<=b)] at this;simpa using this
   cases c
  cases h
 ·rename_i C Y;split at h
  ·cases h
  rename_i i I;split at h
  ·rename_i e hu;have p:P.underlying t=some (.slice e):=(G _ _ I).ic.2.2.2 e hu;split at h
   ·rename_i j a b r U K c;cases h;obtain⟨W,D,_⟩:=n;obtain⟨k,T,f,rfl⟩:=zH W;obtain⟨qC,s,_⟩:=G _ _ K;unfold rE at c;split at c
    ·cases c;rw[iS k,iS (O:0<=b)];exact UY _ _ _ _ _ _ _ p s O O D
    ·cases c
     have:=R4 (P:=P) (H:=H) (d:=d) (ty:=ty) (pos:=pos) (af:=af) (g:=g) x ‹_› e C a.toNat p s O D;rw[<-iS k] at this;simpa using this
    ·cases c
     have:=St (P:=P) (H:=H) (d:=d) (ty:=ty) (pos:=pos) (af:=af) (g:=g) x ‹_› e C b.toNat p s O D;rw[<-iS (O:0<=b)] at this;simpa using this
    cases c
   cases h
  cases h
 ·rename_i id ahp sz L q Y;split at h
  ·rename_i i lA I M;split at h
   ·rename_i e hu;have p:P.underlying t=some (.slice e):=(G _ _ I).ic.2.2.2 e hu;obtain⟨G4,hH,M⟩:=Option.bind_eq_some_iff.1 M;have Q: ∀{a b:Int},rE y A q Y=some (a,b)->0<=a->0<=b-> ∀β w X (F:Operand->Value),dt β w X Y (y.toList.map F++A.toList.map F)->p8 q y A F a.toNat b.toNat:=by
     intro a b c W k β w X F D;unfold rE at c;split at c
     ·cases c;refine⟨?_,?_⟩
      ·show F _=_;rw[yB W];exact dD D.1
      show F _=_;rw[yB k];exact dD D.2.1
     ·cases c;refine⟨?_,by show _=_;simp⟩;show F _=_;rw[yB W];exact dD D.1
     ·cases c;refine⟨by show _=_;simp,?_⟩;show F _=_;rw[yB k];exact dD D.1
     cases c
    split at h
    ·rename_i j a b o m U K c;cases h;obtain⟨rfl,rfl,⟨k,T,f,h4,rfl,rfl⟩,_⟩:=n;obtain⟨qC,s,_⟩:=G _ _ K;exact Z2 x y A e id _ L q a.toNat b.toNat G4 hH M p s O O O (Q c k O)
    ·rename_i j a b U K c;cases h;obtain⟨rfl,⟨k,rfl,f⟩,_⟩:=n;obtain⟨qC,s,_⟩:=G _ _ K;exact YR x y A e id _ _ L q a.toNat G4 hH M p s O (Q c k k)
    ·rename_i j a b o m U K c;split at h
     ·rename_i R;cases h;obtain⟨rfl,rfl,rfl,⟨W,k,T,f,rfl,rfl⟩,_⟩:=n;obtain⟨qC,s,_⟩:=G _ _ K;exact YQ x y A e _ id _ L q a.toNat b.toNat _ R p s W O O (Q c k O)
     cases h
    cases h
   cases h
  cases h
 cases h
theorem UG(B:dT P cb){m n:Operand}{k:List V}(h:Fl cb H t k p=some (v,r,l))(o:ch r):
  b9 P H ⟨d,.slice t x (some y) (some m) (some n),ty,pos,af,g⟩ k v:=by
 unfold Fl at h;split at h
 ·rename_i id Q R q s a b c;split at h
  ·rename_i i U w A;split at h
   ·rename_i e C;have D:P.underlying t=some (.slice e):=(B _ _ w).ic.2.2.2 e C;obtain⟨F,G,A⟩:=Option.bind_eq_some_iff.1 A;split at h
    ·rename_i j I;cases h;obtain⟨rfl,⟨K,W,X,Y⟩,_⟩:=o;obtain⟨f,L,_⟩:=B _ _ I;rw[iS K,iS (O:0<=b),iS (O:0<=c)];exact WD x y m n e id _ _ q s a.toNat b.toNat c.toNat F G A D L O O O
    cases h
   cases h
  cases h
 cases h
theorem WQ(o:dT P cb){m:Operand}{a:List V}(h:Gj cb t a l=some (v,r,c))(k:ch r):
  b9 P H ⟨d,.slice t x none (some y) (some m),ty,pos,af,g⟩ a v:=by
 unfold Gj at h;split at h
 ·split at h
  ·rename_i i n;split at h
   ·rename_i e p;have q:P.underlying t=some (.slice e):=(o _ _ n).ic.2.2.2 e p;split at h
    ·rename_i j s;cases h;obtain⟨⟨w,rfl⟩,A,_⟩:=k;obtain⟨F,B,C,rfl⟩:=zH w;obtain⟨G,D,_⟩:=o _ _ s
     have:=Ty (P:=P) (H:=H) (d:=d) (ty:=ty) (pos:=pos) (af:=af) (g:=g) x y m e _ _ q D (Int.toNat_le.2 C) A;rw[<-iS B] at this;simpa using this
    cases h
   cases h
  cases h
 cases h
theorem TS(o:dT P cb){b:Builtin}{c:List TypeId}{e:List Operand}{a:List V}(h:EE cb H b c e a n=some (v,m,l))(i:ch m):
  b9 P H ⟨d,.call {callee:= .builtin b,args:=e.toArray,argTypes:=c.toArray},ty,pos,af,g⟩ a v:=by
 unfold EE at h;split at h
 ·exact Yk o h i
 ·split at h
  ·rename_i k;subst k;cases h;exact abq _ _ _ _ _ _
  cases h
 ·split at h
  ·rename_i k;subst k;cases h;exact abp _ _ _ _ _ _
  cases h
 cases h
theorem Yi(h:GF H a l=some (v,e,c))(i:ch e):b9 P H ⟨d,.nilCheck x,ty,pos,af,g⟩ [a] v:=by
 unfold GF at h;split at h
 ·split at h
  ·rename_i o k;cases h;obtain⟨rfl,_⟩:=i;obtain⟨m,n,k⟩:=Option.bind_eq_some_iff.1 k;exact T7 _ _ _ _ _ _ m n k
  cases h
 ·cases h;exact Kw _ _ rfl
 ·cases h;exact Kw _ _ rfl
 ·cases h;exact T6 _ _ _
 cases h
theorem VD(p:dT P cb){c:Array (Nat×Operand)}{a:List V}(h:FP cb t (c.toList.map (·.1)) a n=some (v,e,l)):
  b9 P H ⟨d,.build t c,ty,pos,af,g⟩ a v:=by
 unfold FP at h;split at h
 ·cases h
 rename_i i q;split at h
 ·rename_i y r;split at h
  ·rename_i cs s w x;cases h;obtain⟨k,m,_,o⟩:=(p _ _ q).st r;exact YV c k i.places a cs m o s (by simpa using w) x
  cases h
 cases h
theorem aaw(k:dT P cb){e:Op}{a:List V}(h:xg P cb H e a n=some (v,m,l))(i:ch m):
  b9 P H ⟨d,e,ty,pos,af,g⟩ a v:=by
 unfold xg at h;split at h
 ·split at h
  ·cases h;exact aaa _ _
  cases h
 ·split at h
  ·cases h;exact XU _ _
  cases h
 ·split at h
  ·rename_i b v w c n;cases h;obtain⟨s,_⟩:=i;subst s;cases b
   ·exact Tz _ _ _ _ _
   exact T5 _ _ _ _ _
  cases h
 ·split at h
  ·split at h
   ·rename_i x;cases h;exact LH k x i
   exact Vz k h i
  cases h
 ·split at h
  ·exact Yi h i
  cases h
 ·split at h
  ·split at h
   ·rename_i r p;cases h;exact Yb k p i
   split at h
   ·rename_i r p;cases h;exact Ym k p
   exact Yh k h i
  cases h
 ·split at h
  ·exact Zg h
  cases h
 ·split at h
  ·exact WO k h i
  cases h
 ·rename_i C first q
  split at h
  ·rename_i f y;cases h
   have:first= #[]:=by simpa using y
   subst this;exact U2 _ _ _
  cases h
 ·split at h
  ·exact Vy k h i
  split at h
  ·exact UG k h i
  ·exact WQ k h i
  cases h
 ·split at h
  ·exact VB k h i
  cases h
 ·split at h
  ·exact Yp k h
  cases h
 ·split at h
  ·exact Yn k h i
  cases h
 ·split at h
  ·exact VA k h i
  cases h
 ·split at h
  ·split at h
   ·rename_i A;cases h;exact WB _ _ _ _ A
   cases h
  cases h
 ·exact VD k h
 ·rename_i c;obtain⟨o,args,B⟩:=c;dsimp only at h;split at h
  ·have:=TS (d:=d) (ty:=ty) (pos:=pos) (af:=af) (g:=g) k h i;simpa using this
  cases h
 cases h
end
section
def kK(P:Program)(G:fa)(f:FuncId)(args:List V)(r:V):Prop:=iV P f/\Ea P G f args r
def iQ(P:Program)(G:fa)(f:FuncId)(a:List E)(args:List V)(r:V)(c:List E):Prop:=
 iV P f/\JL P G f a args (ι:=Unit) (λ_=>True) (λ_=>r) λ_=>c
def e9(d:Option Tmp)(v:V):List (Nat×V):=match d with
 |some d=>[(d,v)]
 |none=>[]
def jS(a:Nat):Option Tmp->Bool
 |some d=>Nat.blt d a
 |none=>true
theorem gO{K:Ctx}{d:Option Tmp}(h:jS K.nt d=true): ∀i,d=some i->Nat.blt i K.nt=true:=by intro i a;subst a;exact h
def iH:T->T
 | .fj=> .aD []
 |x=>x
variable {w:World}{X:Nat->Prop}{m:Nat}
theorem cW.xY{x:T}{v:Value}(h:cW w X x v):cW w X (iH x) v:=by
 cases h with
 |fj=>exact .fO _ _
 |bool b=>exact .bool b
 |int k n=>exact .int k n
 |str l=>exact .str l
 |fO a c=>exact .fO a c
 |aD e b m size c f p q i o r y=>exact .aD e b m size c f p q i o r y
 |hf=>exact .hf
 |gp=>exact .gp
 |nl=>exact .nl
 |err t v=>exact .err t v
theorem Zd{D:Map}{k:Nat}{c:TypeId}{gen n:Nat}{z:List T}(h:cF D w X k (.arr c gen n (List.replicate m z))):cF D w X k (.arr c gen n (List.replicate m (z.map iH))):=by
 refine⟨h.1,?_⟩;rcases h.2 with ⟨l,o⟩|⟨b,r,l,o,A,B,C⟩
 ·have:m=0:=by simpa using o
  subst this;exact .inl ⟨l,rfl⟩
 refine .inr ⟨b,r,l,o,by simpa using A,λp a=>?_,λi j p x u a e F=>?_⟩
 ·obtain⟨G,rfl⟩:=pI.1 a;rw[c6];exact B z (pI.2 ⟨G,rfl⟩)
 rw[s3] at a;split at a
 ·cases a;rw[et] at e;cases q:z[j]? with
  |none=>rw[q] at e;simp at e
  |some y=>
   rw[q] at e;simp at e;subst e;exact(C i j z y u (by rw[s3,a1 ‹_›]) q F).xY
 cases a
def lj(a:Nat):Nat->List T->List (List T)
 |0,_=>[]
 |n+1,l=>l.take a::lj a n (l.drop a)
theorem zL(a:Nat): ∀(n:Nat) (l:List T),l.length=n*a->(lj a n l).length=n/\(∀c,c∈lj a n l->c.length=a)/\(lj a n l).flatten=l
 |0,l,h=>by
  have:l=[]:=by simpa using h
  subst this;exact⟨rfl,λ_ h=>by simp[lj] at h,rfl⟩
 |n+1,l,h=>by
  rw[dj] at h;obtain⟨e,i,k⟩:=zL a n (l.drop a) bQ;refine⟨by simp[lj,e],?_,by simp[lj,k]⟩;intro c b7;simp only[lj,List.mem_cons] at b7;rcases b7 with rfl|b7
  ·simp;omega
  exact i c b7
structure dK where
 P:Program
 G:fa
 cb:List (Nat×cj)
 nt:Nat
 c':Nat
 gK:Map
def tH(a:Nat):List Nat->Nat->Option Nat
 | [],_=>none
 |x::r,k=>bif Nat.beq x a then some k else tH a r (k+1)
theorem zS{i:Nat}: ∀{L:List Nat} {k m:Nat},tH i L k=some m->k<=m/\L[m-k]? =some i
 | [],_,_,h=>by cases h
 |x::r,k,m,h=>by
  simp only[tH] at h;cases a:Nat.beq x i with
  |true=>rw[a] at h;cases h;rw[cK a];exact⟨cN _,aX⟩
  |false=>
   rw[a] at h;obtain⟨e,c⟩:=zS (L:=r) (k:=k+1) h;refine⟨O,?_⟩;rw[show m-k=(m-(k+1))+1 by omega];simpa using c
mutual
def sW(L:List Nat):V->Option V
 | .ref id a=>match tH id L 0 with
  |some k=>some (.ref k a)
  |none=>none
 | .bc id gen size a c=>match tH id L 0 with
  |some k=>some (.bc k gen size a c)
  |none=>none
 | .fn f cs=>match sV L cs with
  |some cs=>some (.fn f cs)
  |none=>none
 | .cB id gen size i a=>match tH id L 0 with
  |some k=>some (.cB k gen size i a)
  |none=>none
 | .t x=>some (.t x)
 | .aP x=>some (.aP x)
 | .agg cs=>match sV L cs with
  |some cs=>some (.agg cs)
  |none=>none
 |_=>none
def sV(L:List Nat):List V->Option (List V)
 | []=>some []
 |c::cs=>match sW L c,sV L cs with
  |some c,some cs=>some (c::cs)
  |_,_=>none
end
mutual
theorem aaF{L:List Nat}: ∀(v e:V),sW L v=some e->e.dq L=v/\e.ok (eX L.length)=true
 | .ref id n,e,h=>by
  simp only[sW] at h;split at h
  ·rename_i k o;cases h;obtain⟨_,a⟩:=zS o;simp only[Nat.sub_zero] at a;have c:=(bR.1 a).1;exact⟨by simp[V.dq,List.getD_eq_getElem?_getD,a],iR.2 c⟩
  cases h
 | .bc id gen size n q,e,h=>by
  simp only[sW] at h;split at h
  ·rename_i k o;cases h;obtain⟨_,a⟩:=zS o;simp only[Nat.sub_zero] at a;have c:=(bR.1 a).1;exact⟨by simp[V.dq,List.getD_eq_getElem?_getD,a],iR.2 c⟩
  cases h
 | .cB id gen size i n,e,h=>by
  simp only[sW] at h;split at h
  ·rename_i k o;cases h;obtain⟨_,a⟩:=zS o;simp only[Nat.sub_zero] at a;have c:=(bR.1 a).1;exact⟨by simp[V.dq,List.getD_eq_getElem?_getD,a],iR.2 c⟩
  cases h
 | .fn f cs,e,h=>by
  simp only[sW] at h;split at h
  ·rename_i l m;cases h;obtain⟨p,a⟩:=wH cs l m;exact⟨by simp[V.dq,p],by simpa[V.ok] using a⟩
  cases h
 | .agg cs,e,h=>by
  simp only[sW] at h;split at h
  ·rename_i l m;cases h;obtain⟨p,a⟩:=wH cs l m;exact⟨by simp[V.dq,p],by simpa[V.ok] using a⟩
  cases h
 | .t x,e,h=>by cases h;exact⟨rfl,rfl⟩
 | .aP x,e,h=>by cases h;exact⟨rfl,rfl⟩
 | .bL _,_,h| .c3,_,h=>by cases h
theorem wH{L:List Nat}: ∀(cs a:List V),sV L cs=some a->iG L a=cs/\gn (eX L.length) a=true
 | [],_,h=>by cases h;exact⟨rfl,rfl⟩
 |c::cs,a,h=>by
  simp only[sV] at h;split at h
  ·rename_i i e k l;cases h;obtain⟨aJ,a2⟩:=aaF c i k;obtain⟨m,n⟩:=wH cs e l;exact⟨by simp[iG,aJ,m],by simp[gn,a2,n]⟩
  cases h
end
def tG(L:List Nat)(H:Nat->Option E):List Nat->Option (List E)
 | []=>some []
 |id::c=>match H id with
  |some (.cells cs)=>match sV L cs,tG L H c with
   |some cs,some e=>some (.cells cs::e)
   |_,_=>none
  |some (.arr ty gen size a)=>match tG L H c with
   |some e=>some (.arr ty gen size a::e)
   |none=>none
  |some (.a' h m gen a [])=>match tG L H c with
   |some e=>some (.a' h m gen a []::e)
   |none=>none
  |some (.a' _ _ _ _ (_::_))=>none
  |none=>none
theorem zR{L:List Nat}{H:Nat->Option E}: ∀(a:List Nat) (gE:List E),tG L H a=some gE->gE.length=a.length/\ ∀(k:Nat) (e:E),gE[k]? =some e-> ∃id,a[k]? =some id/\H id=some (e.dq L)/\e.ok (eX L.length)=true
 | [],_,h=>by cases h;exact⟨rfl,λk e h=>by simp at h⟩
 |id::a,gE,h=>by
  simp only[tG] at h;split at h
  ·rename_i cs hid;split at h
   ·rename_i r l w n;cases h;obtain⟨aJ,a2⟩:=zR a l n;obtain⟨x,y⟩:=wH cs r w;refine⟨by simp[aJ],λk e c=>?_⟩;cases k with
    |zero=>simp at c;subst c;exact⟨id,rfl,by rw[hid];simp only[E.dq,x],y⟩
    |succ k=>simp at c;obtain⟨i,o,p⟩:=a2 k e c;exact⟨i,by simpa using o,p⟩
   cases h
  ·rename_i ty gen size q hid;split at h
   ·rename_i l n;cases h;obtain⟨aJ,a2⟩:=zR a l n;refine⟨by simp[aJ],λk e c=>?_⟩;cases k with
    |zero=>simp at c;subst c;exact⟨id,rfl,hid,rfl⟩
    |succ k=>simp at c;obtain⟨i,o,p⟩:=a2 k e c;exact⟨i,by simpa using o,p⟩
   cases h
  ·rename_i A m gen q hid;split at h
   ·rename_i l n;cases h;obtain⟨aJ,a2⟩:=zR a l n;refine⟨by simp[aJ],λk e c=>?_⟩;cases k with
    |zero=>simp at c;subst c;exact⟨id,rfl,hid,rfl⟩
    |succ k=>simp at c;obtain⟨i,o,p⟩:=a2 k e c;exact⟨i,by simpa using o,p⟩
   cases h
  ·cases h
  cases h
def AO(a:Nat):List Nat->Bool
 | []=>true
 |x::l=>bif Nat.beq x a then false else AO a l
theorem LC{i:Nat}: ∀{l:List Nat},AO i l=true->i∉l
 | [],_,h=>by cases h
 |x::l,h,hm=>by
  simp only[AO] at h;cases a:Nat.beq x i with
  |true=>rw[a] at h;cases h
  |false=>
   rw[a] at h;rcases dN.1 hm with rfl|hm
   ·simp at a
   exact LC h hm
def AX:List Nat->Bool
 | []=>true
 |x::l=>AO x l&&AX l
theorem zn: ∀{l:List Nat},AX l=true->l.Nodup
 | [],_=>List.nodup_nil
 |x::l,h=>by simp only[AX,Bool.and_eq_true] at h;exact List.nodup_cons.2 ⟨LC h.1,zn h.2⟩
def Ap(u:Nat->Bool):List Nat->Bool
 | []=>true
 |x::l=> !u x&&Ap u l
theorem Kf{u:Nat->Bool}: ∀{l:List Nat},Ap u l=true-> ∀id,id∈l->u id=false
 | [],_,_,h=>by cases h
 |x::l,h,id,hm=>by
  simp only[Ap,Bool.and_eq_true,Bool.not_eq_true'] at h;rcases dN.1 hm with rfl|hm
  ·exact h.1
  exact Kf h.2 id hm
theorem Kx{u:Nat->Bool}{i:Nat}: ∀{l:List Nat},i∈l->de u (l.map λk=>(k,true)) i=true
 |x::l,h=>by
  simp only[List.map_cons,de];by_cases a:i∈l
  ·rw[Aw _ _ u _ ⟨true,eK.2 ⟨i,a,rfl⟩⟩];exact Kx a
  rcases dN.1 h with rfl|h
  ·rw[mj _ _ _ (λv c=>a (by obtain⟨y,m,e⟩:=eK.1 c;cases e;exact m)),bW]
  exact bA h a
theorem Kv{R:Type}: ∀(L:List Nat),L.Nodup-> ∀(f:Nat->R) (a:List R) (g:Nat->R),a.length=L.length->(∀(k:Nat) x,a[k]? =some x->g k=x)->de f (L.zip a)=k5 f L g
 | [],_,f,a,g,_,_=>by simp[de,k5]
 |l::L,c,f,[],g,h,_=>by simp at h
 |l::L,c,f,x::a,g,h,n=>by
  simp only[List.nodup_cons] at c;simp only[List.zip_cons_cons,de,k5];rw[Kv L c.2 (aU f l x) a (λk=>g (k+1)) (by simpa using h) (λk y p=>n (k+1) y (by simpa using p)),n 0 x rfl];funext i;by_cases e:i=l
  ·subst e;rw[nd c.1,bW,bW]
  rw[bX _ _ _ _ e];by_cases m:i∈L
  ·obtain⟨k,o⟩:=j9.1 m;rw[oc c.2 o,oc c.2 o]
  rw[nd m,nd m,bX _ _ _ _ e]
abbrev iP:=Option (cP×List dd×List ct)
def tL(d:Option Tmp)(u:Nat->Bool)(v:V)(a:List ct):iP:=
 match a with
 | .nat k::a=>match u k,v.val with
  |false,true=>some (⟨e9 d (.ref k 0),[(k,some (.cells v.cs))],[(k,true)]⟩,[],a)
  |_,_=>none
 |_=>none
def Gl(d:Option Tmp)(v:V)(a:List ct):iP:=
 match a with
 | .b true::a=>match (nm v).val,lq (nm v).cs with
  |true,some c=>some (⟨e9 d (.aP c),[],[]⟩,[],a)
  |_,_=>none
 |_=>none
def PZ:List ct->Bool
 | .b true::_=>true
 |_=>false
def FJ(C:dK)(t:TypeId)(H:Nat->Option E)(a v:V)(o:List ct):iP:=
 match dw C.cb t with
 |none=>none
 |some i=>match a with
  | .ref id c=>match H id with
   |some (.cells cs)=>match v.val,nw v.cs,Nat.beq v.cs.length i.size,Nat.ble (c+i.size) cs.length with
    |true,true,true,true=>some (⟨[],[(id,some (.cells (mC cs c v.cs)))],[]⟩,[],o)
    |_,_,_,_=>none
   |_=>none
  | .cB id gen x k c=>match H id,lq (nm v).cs,o with
   |some (.arr e l n m),some w,.row r:: .rows h::o=>match (nm v).val,Nat.beq w.length i.size,Nat.ble (c+i.size) x with
    |true,true,true=>some (⟨[],[(id,some (.arr e l n h))],[]⟩,
      [.q l gen,.q n x,.p (m[k]? =some r),.p (h=m.set k (r.take c++w++r.drop (c+w.length)))],o)
    |_,_,_=>none
   |_,_,_=>none
  |_=>none
def tO(k a n:Nat):List (Nat×Nat×V)->List dd
 | []=>[]
 |h::c=>bif Nat.ble a h.2.1&&Nat.blt h.2.1 (a+n) then .q h.1 k::tO k a n c else tO k a n c
def tP(k a n:Nat):List (Nat×Nat×V)->List dd
 | []=>[]
 |h::c=>bif Nat.ble a h.2.1&&Nat.blt h.2.1 (a+n) then .p (h.1≠k)::tP k a n c else tP k a n c
def Fk(C:dK)(t:TypeId)(H:Nat->Option E)(a v:V)(w:List ct):iP:=
 match dw C.cb t,a,w with
 |some i,.cB id gen y k c,.row r::w=>match H id with
  |some (.a' x m e h o)=>match v.val&&(nw v.cs&&(Nat.beq v.cs.length i.size&&(Nat.ble (c+i.size) r.length&&Nat.blt 0 i.size))),rz o c i.size with
   |true,some l=>some (⟨[],[(id,some (.a' x m e h (pX c v.cs o)))],[]⟩,.q e gen:: .q (aO x m).size y:: .p (h[k]? =some r)::(rG k l++tO k c i.size o),w)
   |_,_=>none
  |_=>none
 |some i,.cB id gen y k c,.int q:: .nat n:: .row r::w=>match H id with
  |some (.a' x m e h o)=>match v.val&&(nw v.cs&&(Nat.beq v.cs.length i.size&&(Nat.ble (c+i.size) r.length&&Nat.blt 0 i.size))),rz ((o.drop q.toNat).take n) c i.size with
   |true,some l=>some (⟨[],[(id,some (.a' x m e h (o.take q.toNat++(pX c v.cs ((o.drop q.toNat).take n)++(o.drop q.toNat).drop n))))],[]⟩,
     .q e gen:: .q (aO x m).size y:: .p (h[k]? =some r)::(rG k l++(tO k c i.size ((o.drop q.toNat).take n)++(tP k c i.size (o.take q.toNat)++tP k c i.size ((o.drop q.toNat).drop n)))),w)
   |_,_=>none
  |_=>none
 |_,_,_=>none
def wL(z:List T):List (Nat×Nat)->Bool
 | []=>true
 |p::l=>(match z[p.1]? with|some .fj=>true|_=>false)&&wL z l
def Ge(C:dK)(d:Option Tmp)(t:TypeId)(u:Nat->Bool)(v w:V)(c:List ct):iP:=
 match dw C.cb t with
 |none=>none
 |some i=>match i.u with
  | .slice e=>match dw C.cb e with
   |none=>none
   |some j=>match v,w,c,lq (gM j.z).cs with
    | .t (.int .i64 n),.t (.int .i64 m),.nat k:: .rows R::c,some a=>match u k,(gM j.z).val,Nat.beq a.length j.size,Nat.blt 0 j.size&&Nat.ble j.bytes 200000 with
     |false,true,true,true=>some (⟨e9 d (.bc k 1 j.size 0 R.length),[(k,some (.arr e 1 j.size R))],[(k,true)]⟩,[.q n.toNat m.toNat,.p (mk n (a.map iH)=some R),.p (0<=m)],c)
     |_,_,_,_=>none
    | .t (.int .i64 n),.t (.int .i64 m),.nat k:: .dR _ h q:: .rows R::c,some a=>match u k,(gM j.z).val&&wL a (aO h q).bm,Nat.beq a.length j.size,Nat.blt 0 j.size&&Nat.ble j.bytes 200000 with
     |false,true,true,true=>some (⟨e9 d (.bc k 1 j.size 0 R.length),[(k,some (.a' h q 1 R []))],[(k,true)]⟩,[.q (aO h q).ty e,.q (aO h q).size j.size,.q n.toNat m.toNat,.p (mk n (a.map iH)=some R),.p (0<=m)],c)
     |_,_,_,_=>none
    |_,_,_,_=>none
  |_=>none
def Fm(C:dK)(d:Option Tmp)(t x:TypeId)(H:Nat->Option E)(v w:V)(m:List ct):iP:=
 match dw C.cb t with
 |none=>none
 |some i=>match i.u with
  | .slice e=>match dw C.cb e with
   |none=>none
   |some j=>match v,nm w,m with
    | .bc k gen size n o,.t (.aD l),.rows R::m=>match H k with
     |some (.arr r a c h)=>match Nat.beq n 0,Nat.beq j.z.cells.size j.size&&(Nat.blt 0 j.size&&Nat.ble j.bytes 140000),Nat.beq r e&&Nat.beq x t with
      |true,true,true=>some (⟨e9 d (.bc k (a+1) size 0 R.length),[(k,some (.arr r (a+1) c R))],[]⟩,
        [.q a gen,.q c size,.q size j.size,.q o h.length,.p (app h l=some R),.p (Rows j.size h),.p (Rows j.size l)],m)
      |_,_,_=>none
     |_=>none
    |_,_,_=>none
  |_=>none
def EF(C:dK)(d:Option Tmp)(t B:TypeId)(H:Nat->Option E)(v w:V)(x:List ct):iP:=
 match dw C.cb t with
 |none=>none
 |some i=>match i.u with
  | .slice e=>match dw C.cb e with
   |none=>none
   |some j=>match v,w,x with
    | .bc k gen size o l,.bc I L Q D y,.rows R::x=>match H k,H I with
     |some (.a' A m c a []),some (.a' F X G (U::n) r)=>match Nat.beq o 0&&Nat.beq D 0,Nat.beq j.z.cells.size j.size&&(Nat.blt 0 j.size&&Nat.ble j.bytes 140000),Nat.beq B t&&(wA (aO A m) (n.length+1) r&&tt r) with
      |true,true,true=>some (⟨e9 d (.bc k (c+1) size 0 R.length),[(k,some (.a' A m (c+1) R (hK a.length r)))],[]⟩,
        [.q c gen,.q G L,.q Q size,.q size j.size,.q (aO A m).size size,.q (aO A m).ty e,.q y (n.length+1),.q l a.length,.p (aO F X=aO A m),.p (app a (U::n)=some R),.p (Rows j.size a),.p (Rows j.size (U::n))],x)
      |_,_,_=>none
     |some (.arr W c h a),some _=>match Nat.beq I k&&Nat.beq o 0,Nat.beq W e&&(Nat.beq B t&&Nat.blt 0 j.size) with
      |true,true=>some (⟨e9 d (.bc k gen size 0 (l+y)),[(k,some (.arr W c h R))],[]⟩,
        [.q c gen,.q L gen,.q h size,.q Q size,.q j.size size,.p (l+y<=a.length),.p (D+y<=a.length),.p (R=a.take l++(a.drop D).take y++a.drop (l+y))],x)
      |_,_=>none
     |_,_=>none
    | .bc k gen size o l,.t (.aD []),.int 0::x=>match H k with
     |some (.arr _ c h _)=>match Nat.beq o 0&&Nat.blt 0 j.size,Nat.beq B t with
      |true,true=>some (⟨e9 d (.bc k gen size 0 l),[],[]⟩,[.q c gen,.q h size,.q j.size size],x)
      |_,_=>none
     |_=>none
    |_,_,_=>none
  |_=>none
def vS(d:dO):Nat->List V->Option (List T×List (Nat×Nat×V))
 |_,[]=>some ([],[])
 |j,v::c=>match vS d (j+1) c with
  |none=>none
  |some (r,a)=>match d.eg j with
   |some _=>bif v.one then some (.aD []::r,(0,j,v)::a) else none
   |none=>match ym v with
    |some x=>some (x::r,a)
    |none=>none
def pW:Nat->List V->List (Nat×Nat×V)
 |_,[]=>[]
 |i,v::vs=>(i,0,v)::pW (i+1) vs
def Gf(C:dK)(d:Option Tmp)(t:TypeId)(n:Nat)(l:List Nat)(u:Nat->Bool)(a:List V)(h:List ct):iP:=
 match dw C.cb t with
 |none=>none
 |some i=>match i.u with
  | .slice e=>match dw C.cb e with
   |none=>none
   |some j=>match n,h with
    |1,.lt k c m::h=>match kD (λi=>some (i*j.size,j.size)) (List.replicate (1*j.size) .c3) (l.zip (tY ((aO c m).eg 0) a)) with
     |none=>none
     |some cs=>match vS (aO c m) 0 cs with
      |none=>none
      |some (r,o)=>match u k,Nat.beq cs.length j.size&&Nat.beq (aO c m).size j.size,Nat.beq l.length a.length&&Nat.beq (aO c m).ty e,Nat.ble (1*j.size) 16777216,Nat.blt 0 j.size with
       |false,true,true,true,true=>some (⟨e9 d (.bc k 1 j.size 0 1),[(k,some (.a' c m 1 [r] o))],[(k,true)]⟩,[],h)
       |_,_,_,_,_=>none
    |n,.lt k c m::h=>match kD (λi=>some (i*j.size,j.size)) (List.replicate (n*j.size) .c3) (l.zip (gH a)) with
     |none=>none
     |some cs=>match u k,Nat.beq j.size 1&&(Nat.beq cs.length n&&nw cs),Nat.beq l.length a.length&&(Nat.beq (aO c m).ty e&&Nat.beq (aO c m).size 1),Nat.ble (n*j.size) 16777216,Nat.blt 0 n with
      |false,true,true,true,true=>some (⟨e9 d (.bc k 1 1 0 n),[(k,some (.a' c m 1 (List.replicate n [.aD []]) (pW 0 cs)))],[(k,true)]⟩,[],h)
      |_,_,_,_,_=>none
    |_,_=>none
  |_=>none
def GG(C:dK)(d:Option Tmp)(t:TypeId)(n:Nat)(c:List Nat)(u:Nat->Bool)(a:List V)(h:List ct):iP:=
 match dw C.cb t with
 |none=>none
 |some i=>match i.u with
  | .slice e=>match dw C.cb e with
   |none=>none
   |some j=>match n,c,h with
    |0,[],.nat k::h=>match u k with
     |false=>some (⟨e9 d (.bc k 1 j.size 0 0),[(k,some (.arr e 1 j.size []))],[(k,true)]⟩,[],h)
     |true=>none
    |n,c,.int 1:: .nat k::h=>match kD (λi=>some (i*j.size,j.size)) (List.replicate (n*j.size) .c3) (c.zip (gH a)) with
     |none=>none
     |some cs=>match lq cs with
      |none=>none
      |some l=>match u k,Nat.beq l.length (n*j.size),Nat.beq c.length a.length,Nat.ble (n*j.size) 16777216,Nat.blt 0 j.size with
       |false,true,true,true,true=>some (⟨e9 d (.bc k 1 j.size 0 (lj j.size n l).length),[(k,some (.arr e 1 j.size (lj j.size n l)))],[(k,true)]⟩,[],h)
       |_,_,_,_,_=>none
    |n,c,.int 2:: .rows R::h=>match kD (λi=>some (i*j.size,j.size)) (List.replicate (n*j.size) .c3) (c.zip (gH a)) with
     |none=>none
     |some cs=>match lq cs with
      |none=>none
      |some l=>match Nat.beq l.length (n*j.size),Nat.beq c.length a.length,Nat.ble (n*j.size) 16777216 with
       |true,true,true=>some (⟨e9 d (.t (.aD R)),[],[]⟩,[.p (lj j.size n l=R)],h)
       |_,_,_=>none
    |n,c,.int 0::h=>match kD (λi=>some (i*j.size,j.size)) (List.replicate (n*j.size) .c3) (c.zip (gH a)) with
     |none=>none
     |some cs=>match lq cs with
      |none=>none
      |some l=>match Nat.beq l.length (n*j.size),Nat.beq c.length a.length,Nat.ble (n*j.size) 16777216 with
       |true,true,true=>some (⟨e9 d (.t (.aD (lj j.size n l))),[],[]⟩,[],h)
       |_,_,_=>none
    |_,_,_=>none
  |_=>none
mutual
def rC:V->Bool
 | .t (.int _ _)| .t (.bool _)| .t (.str _)=>true
 | .agg cs=>tK cs
 | .bL cs=>tK cs
 |_=>false
def tK:List V->Bool
 | []=>true
 |c::cs=>rC c&&tK cs
end
def w7(H:Nat->Option E):V->Option (T×List dd)
 | .bc k gen size h i=>match H k with
  |some (.arr _ c e a)=>some (.aD a,[.q gen c,.q size e,.q h 0,.q i a.length])
  |some (.a' l m c a [])=>some (.aD a,[.q gen c,.q size (aO l m).size,.q h 0,.q i a.length])
  |_=>none
 | .t x=>some (iH x,[])
 |_=>none
def A9(H:Nat->Option E):List V->Option (List T×List dd)
 | []=>some ([],[])
 |v::a=>match w7 H v,A9 H a with
  |some (x,c),some (e,h)=>some (x::e,c++h)
  |_,_=>none
mutual
def mV(H:Nat->Option E):V->Option (V×List dd)
 | .bc k gen size c h=>match w7 H (.bc k gen size c h) with
  |some (x,a)=>some (.t x,a)
  |none=>none
 | .t x=>some (.t (iH x),[])
 | .aP cs=>some (.aP cs,[])
 | .ref id c=>match H id with
  |some (.cells cs)=>match A9 H cs with
   |some (eD,a)=>some (.aP (eD.drop c),a)
   |none=>none
  |_=>none
 | .agg cs=>match oQ H cs with
  |some (e,a)=>some (.agg e,a)
  |none=>none
 | .bL cs=>match oQ H cs with
  |some (e,a)=>some (.bL e,a)
  |none=>none
 | .fn f cs=>match oQ H cs with
  |some (e,a)=>some (.fn f e,a)
  |none=>none
 | .cB _ _ _ _ _=>none
 | .c3=>none
def oQ(H:Nat->Option E):List V->Option (List V×List dd)
 | []=>some ([],[])
 |v::a=>match mV H v,oQ H a with
  |some (x,c),some (e,h)=>some (x::e,c++h)
  |_,_=>none
end
def Om:List ct->List ct
 | .nat _::hs=>Om hs
 |hs=>hs
def Gz(C:dK)(d:Option Tmp)(H:Nat->Option E)(a:List V)(e:List ct):iP:=
 match a with
 | .fn f c::args=>match Om (e.drop 1) with
  | .v r::e=>match oQ H (args++c),rC r with
   |some (h,i),true=>some (⟨e9 d r,[],[]⟩,i++[.p (kK C.P C.G f h r)],e)
   |_,_=>none
  |_=>none
 |_=>none
def Gk(C:dK)(d:Option Tmp)(c:List V)(e:List ct):iP:=
 match c with
 | .fn f a::args=>match e with
  | .v r::e=>match gn gl (gH (args++a)) with
   |true=>some (⟨e9 d r,[],[]⟩,[.p (kK C.P C.G f (gH (args++a)) r)],e)
   |false=>none
  | .nat _:: .v r::e=>some (⟨e9 d r,[],[]⟩,[.p (gn gl (gH (args++a))=true),.p (kK C.P C.G f (gH (args++a)) r)],e)
  |_=>none
 |_=>none
def GS(C:dK)(d:Option Tmp)(h:List V)(H:Nat->Option E)(u:Nat->Bool)(l:List ct):iP:=
 match h with
 | .fn f i::args=>match l with
  | .dG L a r out::l=>match sV L (gH (args++i)),tG L H L,AX (L++a)&&Ap u a&&Nat.beq out.length (L++a).length with
   |some c,some gE,true=>some (⟨e9 d (r.dq (L++a)),(L++a).zip (out.map λe=>some (e.dq (L++a))),(L++a).map λk=>(k,true)⟩,[.p (iQ C.P C.G f gE c r out)],l)
   |_,_,_=>none
  |_=>none
 |_=>none
def FO(C:dK)(t:TypeId)(H:Nat->Option E)(v:V)(n:List ct):iP:=
 match dw C.cb t with
 |none=>none
 |some i=>match i.u with
  | .slice e=>match dw C.cb e with
   |none=>none
   |some j=>match v,n,lq (gM j.z).cs with
    | .bc k gen size l m,.rows R::n,some o=>match H k,(gM j.z).val with
     |some (.arr r h a c),true=>some (⟨[],[(k,some (.arr r h a R))],[]⟩,[.q h gen,.q a size,.q o.length size,.p (l+m<=c.length/\R=c.take l++List.replicate m (o.map iH)++c.drop (l+m))],n)
     |_,_=>none
    |_,_,_=>none
  |_=>none
def Gh(C:dK)(d:Option Tmp)(t:TypeId)(H:Nat->Option E)(v w:V)(r:List ct):iP:=
 match dw C.cb t with
 |none=>none
 |some i=>match i.u with
  | .slice e=>match dw C.cb e with
   |none=>none
   |some j=>match v,nm w,r with
    | .bc k gen size n o,.t (.aD a),.rows R:: .nat m::r=>match H k,Nat.blt 0 j.size with
     |some (.arr x l c h),true=>some (⟨e9 d (.t (.int .i64 m)),[(k,some (.arr x l c R))],[]⟩,
       [.q l gen,.q c size,.q size j.size,.q m (Nat.min a.length o),.p (Rows j.size a),.p (n+o<=h.length/\R=h.take n++a.take m++h.drop (n+m))],r)
     |_,_=>none
    |_,_,_=>none
  |_=>none
def abJ:List ct->Bool
 | .dG _ _ _ _::_=>true
 |_=>false
def G5(C:dK)(o:Oper)(e:List V)(H:Nat->Option E)(u:Nat->Bool)(h:List ct):iP:=
 match jS C.nt o.dst with
 |false=>none
 |true=>match o.op with
  | .box _ _=>match e with
   | [v]=>match PZ h with
    |true=>Gl o.dst v h
    |false=>tL o.dst u v h
   |_=>none
  | .alloc t=>match dw C.cb t with
   |some i=>tL o.dst u (gM i.z) h
   |none=>none
  | .store t _ _=>match o.dst,e with
   |none,[a,v]=>match FJ C t H a v h with
    |some r=>some r
    |none=>Fk C t H a v h
   |_,_=>none
  | .makeSlice t _ _=>match e with
   | [v,w]=>Ge C o.dst t u v w h
   |_=>none
  | .buildSlice t n l=>match GG C o.dst t n (l.toList.map (·.1)) u e h with
   |some r=>some r
   |none=>Gf C o.dst t n (l.toList.map (·.1)) u e h
  | .call c=>match c.callee with
   | .value _=>match abJ h with
    |true=>GS C o.dst e H u h
    |false=>match PZ h with
     |true=>Gz C o.dst H e h
     |false=>Gk C o.dst e h
   | .builtin .append=>match c.args.toList,c.argTypes.toList,e with
    | [_,_],[t,m],[v,w]=>match Fm C o.dst t m H v w h with
     |some r=>some r
     |none=>EF C o.dst t m H v w h
    |_,_,_=>none
   | .builtin .clear=>match o.dst,c.args.toList,c.argTypes.toList,e with
    |none,[_],[t],[v]=>FO C t H v h
    |_,_,_,_=>none
   | .builtin .copy=>match c.args.toList,c.argTypes.toList,e with
    | [_,_],[t,_],[v,w]=>Gh C o.dst t H v w h
    |_,_,_=>none
   | .builtin _=>match xg C.P C.cb H o.op e h with
    |some (v,k,h)=>some (⟨e9 o.dst v,[],[]⟩,k,h)
    |none=>none
   |_=>none
  |_=>match xg C.P C.cb H o.op e h with
   |some (v,k,h)=>some (⟨e9 o.dst v,[],[]⟩,k,h)
   |none=>none
theorem Ze{z:Value}{a:List T}(k:(gM z).val=true)(l:lq (gM z).cs=some a):z.cells.size=a.length/\ ∀(w:World) (X:Nat->Prop) (j:Nat) (u:Value) (x:T),z.cells[j]? =some u->(a.map iH)[j]? =some x->cW w X x u:=by
 have h:=fun(w:World) (X:Nat->Prop)=>(t7 (⟨λ_=>none,λ_ _=>False⟩:Map) w X z).cells k;have i:=ow l;refine⟨by rw[(h default λ_=>False).1,i,c6],λw X j u x m c=>?_⟩;rw[et] at c;cases e:a[j]? with
 |none=>rw[e] at c;cases c
 |some y=>
  rw[e] at c;simp only[Option.map_some,Option.some.injEq] at c;subst c
  have:=(h w X).2 j (.t y) u (by rw[i,et,e];rfl) m;cases this with
  |t _ _ n=>exact n.xY
section steps
variable {K:Ctx} {s:S} {d:Option Tmp} {ty:TypeId} {pos:String} {af:Array Edge} {g:Option (Nat×Bool)}
variable {t:TypeId} {u:TypeDesc} {z:Value} {size bytes gen:Nat}
theorem Ss(a:Array Value)(n i j:Nat)(h:i<n)(e:j<a.size):(Builtin.zeroCells a n).toList[i*a.size+j]? =a[j]? :=by
 have c:i*a.size+j<n*a.size:=by
  have:(i+1)*a.size<=n*a.size:=dx _ h;rw[dj] at this;omega
 have k:(i*a.size+j)%a.size=j:=by rw[Nat.mul_comm,Nat.mul_add_mod];exact Nat.mod_eq_of_lt e
 simp[Builtin.zeroCells,c,k,e]
theorem Zy(x:Operand)(U c h:Nat)(e e':TypeId)(rows:List (List T))(A:List T)(hx:s.get x= .bc U gen size c h)(hH:s.H U=some (.arr e' gen size rows))(eZ:K.P.underlying t=some (.slice e)){sz:Nat}(he:cd K.P e u z sz bytes)
  (bJ:(gM z).val=true) (eH:lq (gM z).cs=some A) (G:A.length=size) (cD:c+h<=rows.length):
  dS K ⟨none,.call {callee:= .builtin .clear,args:= #[x],argTypes:= #[t]},ty,pos,af,g⟩ s {s with H:=aU s.H U (some (.arr e' gen size (rows.take c++List.replicate h (A.map iH)++rows.drop (c+h))))}:=by
 intro β a w next Q b7 W
 have I:=b7.get x;rw[hx] at I;have Y:=(b7.heap U _ hH).2;obtain⟨q,E⟩:=i' Y;obtain⟨qm,M⟩:=Ze bJ eH;unfold Oper.wp;cases h with
 |zero=>
  obtain⟨ix,cap,o⟩: ∃ix cap,a.eval x= .slice ix 0 cap:=by
   rcases e8 I E with ⟨cap,b,n,hh,o,_⟩|⟨_,_,_,o⟩
   ·exact⟨_,cap,o⟩
   exact⟨none,0,o⟩
  have y:(execOp a.eval ⟨none,.call {callee:= .builtin .clear,args:= #[x],argTypes:= #[t]},ty,pos,af,g⟩).run K.P w= .ok (.value (.tuple #[])) w:=by
   cases ix<;>simp[execOp,resolve,invoke,builtin,o,Builtin.clear_,run_underlying eZ]
  rw[y]
  have:rows.take c++List.replicate 0 (A.map iH)++rows.drop (c+0)=rows:=aX
  refine W β _ _ ?_;rw[this];exact b7.yi U _ hH
 |succ h=>
  rcases e8 I E with ⟨cap,b,n,hh,o,ju,hw,hs,cG,oZ,hm⟩|⟨_,_,h0,_⟩
  ·subst ju;rcases Y.2 with ⟨N,_⟩|⟨cu,C,N,h2,h3,h4,h5⟩
   ·rw[E] at N;cases N
   rw[E] at N;cases N;have D:z.cells.size=size:=by rw[qm,G]
   have p:(Builtin.zeroCells z.cells (h+1)).toList.length=(h+1)*size:=by rw[lT,size_zeroCells,D]
   have ni:c*size+(h+1)*size<=C.size:=by
    have:(c+(h+1))*size<=rows.length*size:=dx _ cD;rw[dj] at this;omega
   have r: ∀(i j:Nat) (u:Value),i<h+1->j<size->(Builtin.zeroCells z.cells (h+1)).toList[i*size+j]? =some u->z.cells[j]? =some u:=by
    intro i j u aH F hu;rw[<-D] at F hu
    rwa [Ss _ _ _ _ aH F] at hu
   have V: ∀v∈(Builtin.zeroCells z.cells (h+1)).toList,v.oneCell'=true:=by
    intro v adN;obtain⟨k,W⟩:=j9.1 adN;have L:=(bR.1 W).1;rw[p] at L;have hp:0<size:=by
     rcases Nat.eq_zero_or_pos size with e0|e0
     ·rw[e0] at L;omega
     exact e0
    have hdiv:k / size<h+1:=(vr hp).2 L;have PE:k%size<size:=Nat.mod_lt _ hp;have oY:(Builtin.zeroCells z.cells (h+1)).toList[k / size*size+k%size]? =some v:=by rw[Nat.div_add_mod'];exact W
    have h9:=r _ _ _ hdiv PE oY
    have:(A.map iH)[k%size]? =some (iH A[k%size]):=by rw[et,bs O];rfl
    exact(bn.t (β:=β) _ _ (M w (λ_=>False) _ _ _ h9 this)).iJ rfl
   have o3:=run_storeCells_at K.P b (c*size) e' (Builtin.zeroCells z.cells (h+1)).toList 0 C w h2 (by rw[p];omega) V;simp only[Nat.add_zero] at o3;have y:(execOp a.eval ⟨none,.call {callee:= .builtin .clear,args:= #[x],argTypes:= #[t]},ty,pos,af,g⟩).run K.P w= .ok (.value (.tuple #[])) (w.setRow b (C.toList.take (c*size)++(Builtin.zeroCells z.cells (h+1)).toList++C.toList.drop (c*size+(Builtin.zeroCells z.cells (h+1)).toList.length)).toArray):=by
    simp[execOp,resolve,invoke,builtin,o,Builtin.clear_,run_underlying eZ,he.sL,o3]
   rw[y];refine W β _ _ (MP b7 U b e' rows _ C _ hH E h2 (by simp[p];omega) ?_ ?_ ?_)
   ·have:(rows.take c++List.replicate (h+1) (A.map iH)++rows.drop (c+(h+1))).length=rows.length:=bQ
    rw[this];exact h3
   ·intro m l;rw[dZ,dZ] at l;rcases l with (l|l)|l
    ·exact h4 m (fR l)
    ·rw[(pI.1 l).2,c6];exact G
    exact h4 m (eV l)
   intro i j m ka lS aJ a2 a3;have a3:(C.toList.take (c*size)++(Builtin.zeroCells z.cells (h+1)).toList++C.toList.drop (c*size+(Builtin.zeroCells z.cells (h+1)).toList.length))[i*size+j]? =some lS:=by simpa using a3
   rw[p] at a3;have B:(C.toList.take (c*size)).length=c*size:=bQ
   by_cases c1:i<c
   ·rw[ie,gJ bQ,fy,a1 c1] at aJ;have F:j<size:=by rw[<-h4 m (bF aJ)];exact(bR.1 a2).1
    have hlt:i*size+j<c*size:=mr c1 F;rw[ie,gJ O,fy,a1 hlt] at a3;exact .inl ⟨i,m,aJ,a2,by simpa using a3⟩
   by_cases c2:i<c+(h+1)
   ·rw[gJ bQ,gU bQ] at aJ;have l:m=A.map iH:=by
     have:=bF aJ;exact(pI.1 this).2
    subst l;have F:j<size:=by rw[<-G,<-c6 (f:=iH)];exact(bR.1 a2).1
    have e1:i*size+j=c*size+((i-c)*size+j):=by rw[s9];have:=dx size (O:c<=i);omega
    have hlt:(i-c)*size+j<(h+1)*size:=mr O F;rw[e1,gJ (by rw[dB,B,p];omega),gU O,B,Nat.add_sub_cancel_left] at a3;exact .inr λw X=>M w X j _ _ (r _ _ _ O F a3) a2
   have R:(rows.take c++List.replicate (h+1) (A.map iH)).length=c+(h+1):=bQ
   rw[gU O,R,fP,show c+(h+1)+(i-(c+(h+1)))=i by omega] at aJ;have F:j<size:=by rw[<-h4 m (bF aJ)];exact(bR.1 a2).1
   have iC:c*size+(h+1)*size<=i*size+j:=by
    have:=dx size (O:c+(h+1)<=i);rw[dj] at this;omega
   rw[gU (by rw[dB,B,p];omega),dB,B,p,fP,show c*size+(h+1)*size+(i*size+j-(c*size+(h+1)*size))=i*size+j by omega] at a3;exact .inl ⟨i,m,aJ,a2,by simpa using a3⟩
  omega
theorem VU(k h l c:Nat)(x y:Operand)(e:TypeId)(rows:List (List T))(cv: ∀i,d=some i->Nat.blt i K.nt=true)(hx:s.get x= .bc k gen size 0 h)(hy:s.get y= .bc k gen size l c)(hH:s.H k=some (.arr e gen size rows))
  (eZ:K.P.underlying t=some (.slice e)) (he:cd K.P e u z size bytes) (hp:0<size) (h1:h+c<=rows.length) (h2:l+c<=rows.length):
  dS K ⟨d,.call {callee:= .builtin .append,args:= #[x,y],argTypes:= #[t,t]},ty,pos,af,g⟩ s
   (({s with H:=aU s.H k (some (.arr e gen size (rows.take h++(rows.drop l).take c++rows.drop (h+c))))}:S).put d (.bc k gen size 0 (h+c))):=by
 intro β a w next Q b7 hkk
 have X:=b7.get x;rw[hx] at X;have lH:=b7.get y;rw[hy] at lH;have hE:=(b7.heap k _ hH).2;have iB:=hE.1;obtain⟨q,Y⟩:=i' hE;obtain⟨_,i,mf,hi2,qk,uv⟩:=id he;unfold Oper.wp;cases c with
 |zero=>
  obtain⟨ix,cap,f⟩: ∃ix cap,a.eval y= .slice ix 0 cap:=by
   rcases e8 lH Y with ⟨cap,b,n,hh,p,_⟩|⟨_,_,_,p⟩
   ·exact⟨_,cap,p⟩
   exact⟨none,0,p⟩
  have adB:rows.take h++(rows.drop l).take 0++rows.drop (h+0)=rows:=aX
  have G:(execOp a.eval ⟨d,.call {callee:= .builtin .append,args:= #[x,y],argTypes:= #[t,t]},ty,pos,af,g⟩).run K.P w= .ok (.value (a.eval x)) w:=by
   rcases e8 X Y with ⟨xa,b,n,hh,p,_,_,_,_,cD,_⟩|⟨_,_,_,p⟩
   ·cases ix<;>simp[execOp,resolve,invoke,builtin,p,f,Builtin.append_,run_underlying eZ,sizeOf,typeInfo,mf,Builtin.lenOf,Builtin.firstCells,cD,storeCells,loadCells,loadCellsFrom]
   cases ix<;>simp[execOp,resolve,invoke,builtin,p,f,Builtin.append_,run_underlying eZ,sizeOf,typeInfo,mf,Builtin.lenOf,Builtin.firstCells,loadCells,loadCellsFrom]
  rw[G];refine hkk β _ w ?_;have kS:aU s.H k (some (E.arr e gen size rows))=s.H:=by
   funext j;by_cases D:j=k
   ·subst D;rw[bW,hH]
   rw[bX _ _ _ _ D]
  rw[adB,kS];exact b7.put d cv X
 |succ c=>
  rcases e8 lH Y with ⟨abR,b,n,hh,f,ju,hw,hs,cG,oZ,hm⟩|⟨_,_,h0,_⟩
  ·subst ju;rcases e8 X Y with ⟨A,ga,Ii,afw,p,kr,xB,M,sc,agf,BI⟩|⟨h0,_⟩
   ·cases kr;rcases hE.2 with ⟨g1,_⟩|⟨cu,B,g1,g2,g3,g4,g5⟩
    ·rw[Y] at g1;cases g1
    rw[Y] at g1;cases g1;have PQ:B.size=Ii:=by
     unfold World.shape? at M;rw[g2] at M;simp at M;exact M.2
    obtain⟨C,PS⟩: ∃C,C=(B.toList.drop (l*size)).take ((c+1)*size):=⟨_,rfl⟩
    have hle:(l+(c+1))*size<=B.size:=gr (dx _ h2) g3;rw[dj] at hle;have F:C.length=(c+1)*size:=by rw[PS];simp;omega
    have I: ∀j v,C[j]? =some v->B[l*size+j]? =some v/\j<(c+1)*size:=λj v bJ=>by
     have D:=(bR.1 bJ).1;rw[F] at D;rw[PS,fy,a1 D,fP] at bJ;exact⟨by simpa using bJ,D⟩
    have N: ∀r,r<rows.length-> ∃m,rows[r]? =some m/\m.length=size:=λr xt=>⟨_,bs xt,g4 _ (fx xt)⟩
    have Hq: ∀j v,C[j]? =some v->w.cell? ((⟨b,l*size,none⟩:Addr).add j)=some v:=λj v bJ=>by
     rw[iU];simp only[World.cell?,g2];exact(I j v bJ).1
    have nj: ∀v,v∈C->v.oneCell'=true:=λv bJ=>by
     obtain⟨j,D⟩:=j9.1 bJ;obtain⟨h3,h4⟩:=I j v D;have PE:j%size<size:=Nat.mod_lt _ hp;have hdiv:j / size<c+1:=(vr hp).2 h4;obtain⟨m,HP,BM⟩:=N (l+j / size) O;have acJ:(l+j / size)*size+j%size=l*size+j:=by rw[dj,pE,Nat.div_add_mod']
     exact(g5 (l+j / size) (j%size) m m[j%size] v HP (bs O) (by rw[acJ];exact h3)).iJ
    have ni:h*size+C.length<=B.size:=by
     rw[F,<-dj];exact gr (dx _ h1) g3
    have L:h+(c+1)<=A:=by
     have:(h+(c+1))*size<=A*size:=by
      rw[dp] at sc;rw[sc,<-PQ];exact gr (dx _ h1) g3
     exact Nat.le_of_mul_le_mul_right this hp
    have R:=run_append_room (P:=K.P) w t ty e i eZ mf b h A B g2 ⟨b,l*size,none⟩ (c+1) abR C (by rw[qk];exact F) Hq nj L (by rw[qk];exact ni);rw[qk] at R;have G:(execOp a.eval ⟨d,.call {callee:= .builtin .append,args:= #[x,y],argTypes:= #[t,t]},ty,pos,af,g⟩).run K.P w= .ok (.value (.slice (some ⟨b,0,none⟩) (h+(c+1)) A)) (w.setRow b (B.toList.take (h*size)++C++B.toList.drop (h*size+C.length)).toArray):=by
     rw[fY] at p;simp[execOp,resolve,invoke,builtin,p,f,R]
    rw[G];have V:(B.toList.take (h*size)).length=h*size:=bQ
    have uw:(B.toList.take (h*size)++C++B.toList.drop (h*size+C.length)).toArray.size=B.size:=bQ
    have U:(rows.take h).length=h:=by rw[cJ];omega
    have W:((rows.drop l).take (c+1)).length=c+1:=by rw[cJ,e6];omega
    have hrel:=MP b7 k b e rows (rows.take h++(rows.drop l).take (c+1)++rows.drop (h+(c+1))) B _ hH Y g2 uw ?_ ?_ ?_
    ·refine hkk β _ _ (hrel.put d cv ?_);have h7:bn β (w.setRow b (B.toList.take (h*size)++C++B.toList.drop (h*size+C.length)).toArray) (own K β (aU s.H k (some (.arr e gen size (rows.take h++(rows.drop l).take (c+1)++rows.drop (h+(c+1))))))) (.bc k gen size 0 (h+(c+1))) (.slice (some ⟨b,0*size,none⟩) (h+(c+1)) A):=by
      refine .bc k gen size 0 _ A b Ii e iB Y (by simpa using xB) ?_ sc L BI;unfold World.shape?;rw[setRow_heap _ _ _ _ _ _ g2];simp only[uw,PQ]
     rw[fY] at h7;exact h7
    ·rw[dB,dB,U,W,e6]
     have:h+(c+1)+(rows.length-(h+(c+1)))=rows.length:=O
     rw[this];exact g3
    ·intro m o;rw[dZ,dZ] at o;rcases o with (o|o)|o
     ·exact g4 m (fR o)
     ·exact g4 m (eV (fR o))
     exact g4 m (eV o)
    intro r j m ka lS aJ a2 a3;have a3:(B.toList.take (h*size)++C++B.toList.drop (h*size+C.length))[r*size+j]? =some lS:=by simpa using a3
    refine .inl ?_;by_cases c1:r<h
    ·rw[ie,gJ O,fy,a1 c1] at aJ;have D:j<size:=by rw[<-g4 m (bF aJ)];exact(bR.1 a2).1
     have hlt:r*size+j<h*size:=mr c1 D;rw[ie,gJ O,fy,a1 hlt] at a3;exact⟨r,m,aJ,a2,by simpa using a3⟩
    by_cases c2:r<h+(c+1)
    ·rw[gJ (by rw[dB];omega),gU O,U,fy,a1 O,fP] at aJ;have D:j<size:=by rw[<-g4 m (bF aJ)];exact(bR.1 a2).1
     have e1:r*size+j=h*size+((r-h)*size+j):=by rw[s9];have:=dx size (O:h<=r);omega
     have hlt:(r-h)*size+j<(c+1)*size:=mr O D;rw[e1,gJ (by rw[dB,V,F];omega),gU O,V,Nat.add_sub_cancel_left] at a3;have h9:=(I _ _ a3).1;exact⟨l+(r-h),m,aJ,a2,by rw[dj,pE];exact h9⟩
    have ac8:(rows.take h++(rows.drop l).take (c+1)).length=h+(c+1):=by rw[dB,U,W]
    rw[gU O,ac8,fP,show h+(c+1)+(r-(h+(c+1)))=r by omega] at aJ;have D:j<size:=by rw[<-g4 m (bF aJ)];exact(bR.1 a2).1
    have iC:h*size+(c+1)*size<=r*size+j:=by
     have:=dx size (O:h+(c+1)<=r);rw[dj] at this;omega
    rw[gU (by rw[dB,V,F];omega),dB,V,F,fP,show h*size+(c+1)*size+(r*size+j-(h*size+(c+1)*size))=r*size+j by omega] at a3;exact⟨r,m,aJ,a2,by simpa using a3⟩
   rw[Y] at *; cases h0
  omega
theorem UL(k L:Nat)(x y:Operand)(e W:TypeId)(p:List (List T))(X: ∀i,d=some i->Nat.blt i K.nt=true)(Y:s.get x= .bc k gen size 0 L)(f:dz (s.get y) (.t (.aD [])))(j:s.H k=some (.arr W gen size p))
  (R:K.P.underlying t=some (.slice e)) (v:cd K.P e u z size bytes) (E:0<size):
  dS K ⟨d,.call {callee:= .builtin .append,args:= #[x,y],argTypes:= #[t,t]},ty,pos,af,g⟩ s (s.put d (.bc k gen size 0 L)):=by
 intro M a w next Q D F
 have h:=D.get x;rw[Y] at h;have G:=f _ _ _ _ (D.get y);have I:=(D.heap k _ j).2;obtain⟨q,N⟩:=i' I;obtain⟨_,i,r,V,qk,uv⟩:=id v;unfold Oper.wp;obtain⟨m,cap,A⟩: ∃m cap,a.eval y= .slice m 0 cap:=by
  rcases E7 G (Rows.nil size) E with (⟨B,_⟩|⟨b,o,c,_,B,_⟩)|⟨_,m,cap,B⟩
  ·exact⟨none,0,B⟩
  ·exact⟨_,c,B⟩
  exact⟨m,cap,B⟩
 have C:(execOp a.eval ⟨d,.call {callee:= .builtin .append,args:= #[x,y],argTypes:= #[t,t]},ty,pos,af,g⟩).run K.P w= .ok (.value (a.eval x)) w:=by
  rcases e8 h N with ⟨U,b,n,hh,l,_,_,_,_,cD,_⟩|⟨_,_,_,l⟩
  ·cases m<;>simp[execOp,resolve,invoke,builtin,l,A,Builtin.append_,run_underlying R,sizeOf,typeInfo,r,Builtin.lenOf,Builtin.firstCells,cD,storeCells,loadCells,loadCellsFrom]
  cases m<;>simp[execOp,resolve,invoke,builtin,l,A,Builtin.append_,run_underlying R,sizeOf,typeInfo,r,Builtin.lenOf,Builtin.firstCells,loadCells,loadCellsFrom]
 rw[C];exact F M _ w (D.put d X h)
theorem Xa{size off:Nat}{a c:List (List T)}{us cs:List Value}(w:off+m<=a.length)(B:a.length*size<=us.length)(p:cs.length=m*size)(C:m<=c.length)(q: ∀e,e∈a->e.length=size)(l: ∀e,e∈c->e.length=size){R:T->Value->Prop}
  (r: ∀(i j:Nat) (e:List T) (x:T) (u:Value),a[i]? =some e->e[j]? =some x->us[i*size+j]? =some u->R x u)
  (y: ∀(i j:Nat) (e:List T) (x:T) (u:Value),c[i]? =some e->e[j]? =some x->cs[i*size+j]? =some u->R x u):
  ∀(i j:Nat) (e:List T) (x:T) (u:Value),(a.take off++c.take m++a.drop (off+m))[i]? =some e->e[j]? =some x->(us.take (off*size)++cs++us.drop (off*size+cs.length))[i*size+j]? =some u->R x u:=by
 have D:off*size+m*size<=a.length*size:=by rw[<-dj];exact dx _ w
 have A:=vJ (us.take (off*size)) cs [] (rows:=a.take off) (news:=c.take m) (n:=off) (size:=size) (by rw[cJ];omega) (by rw[cJ];omega) (by rw[cJ,p];congr 1;omega)
  (λe h=>q e (fR h)) (λe h=>l e (fR h)) (R:=R)
  (λk j e x u aJ a2 a3=>by
   rw[fy] at aJ a3;split at aJ
   ·split at a3
    ·exact r k j e x u aJ a2 a3
    cases a3
   cases aJ)
  (λk j e x u aJ a2 a3=>by
   rw[fy] at aJ;split at aJ
   ·exact y k j e x u aJ a2 a3
   cases aJ)
 have o:(us.drop (off*size+cs.length)).length=us.length-(off+m)*size:=by rw[e6,p,dj]
 have fD:=vJ (us.take (off*size)++cs) ((us.drop (off*size+cs.length)).take ((a.length-(off+m))*size)) ((us.drop (off*size+cs.length)).drop ((a.length-(off+m))*size)) (rows:=a.take off++c.take m) (news:=a.drop (off+m)) (n:=off+m) (size:=size)
  (by rw[dB,cJ,cJ];omega) (by rw[dB,cJ,p,dj];omega)
  (by
   rw[cJ,o,e6]
   have:(a.length-(off+m))*size=a.length*size-(off+m)*size:=s9 _ _ _;omega)
  (λe h=>by
   rcases dZ.1 h with h|h
   ·exact q e (fR h)
   exact l e (fR h)) (λe h=>q e (eV h)) (R:=R) (λk j e x u aJ a2 a3=>A k j e x u aJ a2 (by simpa using a3))
  (λk j e x u aJ a2 a3=>by
   rw[fP] at aJ;rw[fy] at a3;split at a3
   ·rw[fP,p] at a3;refine r (off+m+k) j e x u aJ a2 ?_;rw[dj,dj,pE];exact a3
   cases a3)
 intro i j e x u aJ a2 a3;refine fD i j e x u aJ a2 ?_;rw[ie _ (List.take _ _),s6];exact a3
theorem aaX(x y:Operand)(X c len:Nat)(e e' lR:TypeId)(rows k:List (List T))(cv: ∀i,d=some i->Nat.blt i K.nt=true)(hx:s.get x= .bc X gen size c len)(hy:dz (s.get y) (.t (.aD k)))(hH:s.H X=some (.arr e' gen size rows))(eZ:K.P.underlying t=some (.slice e))
  (he:cd K.P e u z size bytes) (hp:0<size) (Y: ∀r,r∈k->r.length=size) (cD:c+len<=rows.length):
  dS K ⟨d,.call {callee:= .builtin .copy,args:= #[x,y],argTypes:= #[t,lR]},ty,pos,af,g⟩ s
   (({s with H:=aU s.H X (some (.arr e' gen size (rows.take c++k.take (Nat.min k.length len)++rows.drop (c+Nat.min k.length len))))}:S).put d (.t (.int .i64 (Nat.min k.length len:Nat)))):=by
 intro β a w next Q b7 hk
 have f:=b7.get x;rw[hx] at f;have lH:=hy _ _ _ _ (b7.get y);have E:=(b7.heap X _ hH).2;obtain⟨q,M⟩:=i' E;obtain⟨_,i,mf,hi2,qk,uv⟩:=he;unfold Oper.wp;have adR: ∃C c1,a.eval x= .slice C len c1:=by
  rcases e8 f M with ⟨D,b,n,hh,B,_⟩|⟨_,_,h0,B⟩
  ·exact⟨_,D,B⟩
  subst h0;exact⟨none,0,B⟩
 have L:=E7 lH Y hp;have adT: ∃II c2,a.eval y= .slice II k.length c2:=by
  rcases L with (⟨A,U⟩|⟨b,c,D,G,A,_⟩)|⟨U,ix,D,A⟩
  ·subst U;exact⟨none,0,A⟩
  ·exact⟨_,_,A⟩
  subst U;exact⟨ix,D,A⟩
 obtain⟨m,hm⟩: ∃m,m=Nat.min k.length len:=⟨_,rfl⟩
 rw[<-hm] at hk;by_cases N:m=0
 ·subst N;obtain⟨C,c1,B⟩:=adR;obtain⟨II,c2,A⟩:=adT;have F:(execOp a.eval ⟨d,.call {callee:= .builtin .copy,args:= #[x,y],argTypes:= #[t,lR]},ty,pos,af,g⟩).run K.P w= .ok (.value (goInt ((0:Nat):Int))) w:=by
   cases C<;>cases II<;>simp[execOp,resolve,invoke,builtin,B,A,Builtin.copy_,run_underlying eZ,sizeOf,typeInfo,mf,Builtin.lenOf,Builtin.firstCells,<-hm,loadCells,loadCellsFrom,storeCells]
  rw[F]
  have:rows.take c++k.take 0++rows.drop (c+0)=rows:=aX
  rw[this] at hk;exact hk β _ _ ((b7.yi X _ hH).put d cv (.t _ _ (.int _ _)))
 have agi:m<=len:=by rw[hm];exact Nat.min_le_right _ _
 have o:m<=k.length:=by rw[hm];exact Nat.min_le_left _ _
 rcases L with (⟨_,U⟩|⟨cu,ae2,Bs,W,A,n0,xC,kX,hwr⟩)|⟨U,_⟩
 ·subst U;simp at o;exact bA o N
 ·rcases e8 f M with ⟨D,b,n,hh,B,ju,hw,hs,U,oZ,mg⟩|⟨_,_,h0,_⟩
  ·subst ju;rcases E.2 with ⟨h1,_⟩|⟨V,G,h1,h2,h3,h4,h5⟩
   ·rw[M] at h1;cases h1
   rw[M] at h1;cases h1;have I:(W.take (m*size)).length=m*size:=by rw[cJ,n0];have:=dx size o;omega
   have ni:c*size+m*size<=G.size:=by
    have:(c+m)*size<=rows.length*size:=dx _ O;rw[dj] at this;omega
   have PB:=run_loadCells_list (P:=K.P) w ⟨cu,ae2,none⟩ (W.take (m*size)) (λj y hj=>by
    rw[iU];rw[fy] at hj;split at hj
    ·exact xC j y hj
    cases hj)
   have o3:=run_storeCells_at K.P b (c*size) e' (W.take (m*size)) 0 G w h2 (by rw[I];omega) λv bJ=>kX v (fR bJ);simp only[Nat.add_zero] at o3;rw[I] at PB;have F:(execOp a.eval ⟨d,.call {callee:= .builtin .copy,args:= #[x,y],argTypes:= #[t,lR]},ty,pos,af,g⟩).run K.P w= .ok (.value (goInt (m:Int))) (w.setRow b (G.toList.take (c*size)++W.take (m*size)++G.toList.drop (c*size+(W.take (m*size)).length)).toArray):=by
    simp[execOp,resolve,invoke,builtin,B,A,Builtin.copy_,run_underlying eZ,sizeOf,typeInfo,mf,qk,Builtin.lenOf,Builtin.firstCells,<-hm,PB,o3]
   rw[F];have kW:(G.toList.take (c*size)++W.take (m*size)++G.toList.drop (c*size+(W.take (m*size)).length)).toArray.size=G.size:=by
    have h2: ∀l:List Value,l.toArray.size=l.length:=λl=>aX
    rw[h2];simp only[List.length_append,I,List.length_take,List.length_drop,Array.length_toList];omega
   have hlen:(rows.take c++k.take m++rows.drop (c+m)).length=rows.length:=bQ
   have kq:own K β s.H b:= .inr ⟨X,by rw[hH];simp,.inl ⟨_,M⟩⟩;refine hk β _ _ (Rel.put (Rel.setRow b7 X b (.inl ⟨_,M⟩) G e' h2 _ kW (.arr e' gen size (rows.take c++k.take m++rows.drop (c+m))) (by rw[hH];simp)
    ⟨E.1,Or.inr ⟨b,_,M,setRow_heap _ _ _ _ _ _ h2,by rw[kW,hlen];exact h3,λr p=>?_,λi j r x u aJ a2 a3=>?_⟩⟩) d cv (.t _ _ (.int _ _)))
   ·rw[dZ,dZ] at p;rcases p with (p|p)|p
    ·exact h4 r (fR p)
    ·exact Y r (fR p)
    exact h4 r (eV p)
   have h9:=Xa (off:=c) (m:=m) (us:=G.toList) (cs:=W.take (m*size)) O (by simpa using h3) I o h4 Y (R:=λx u=>cW w (own K β s.H) x u) (λi j r x u cT cu V=>h5 i j r x u cT cu (by simpa using V))
    (λi j r x u cT cu V=>by
     rw[fy] at V;split at V
     ·exact hwr i j r x u cT cu V
     cases V) i j r x u aJ a2 (by simpa using a3)
   refine h9.mono ⟨rfl,rfl,rfl,aX,λkk _ hx=>setRow_other _ _ _ _ λe0=>hx ?_⟩ λ_ _ h=>h;subst e0;exact kq
  omega
 subst U;simp at o;exact bA o N
end steps
end
variable {P:Program}{r:List Nat}{o:Oper}{b:S}{c l n M I U:List ct}{k gen size:Nat}{e:cP}{e':E}{t:TypeId}{x y:Operand}{u:Nat->Bool}{m lZ:List dd}{i:Array Operand}{z:Value}
theorem b9.sub{H r:Nat->Option E}{a:List V}{v:V}(h:b9 P H o a v)(c: ∀k e,H k=some e->r k=some e):b9 P r o a v:=
 λβ w X i l m=>h β w X i (λid e n=>l id e (c id e n)) m
theorem dS.I7{K:Ctx}{s c:S}(h:dS K o s b)(m: ∀β a w,Rel K β b a w->Rel K β c a w):dS K o s c:=
 λβ a w next Q n p=>h β a w next Q n λe k l i=>p e k l (m e k l i)
theorem ZY{K:Ctx}{β:Map}{H:Nat->Option E}{e:E}(l:H k=some e):own K β (aU H k (some e'))=own K β H:=by
 funext b;apply propext;constructor
 ·rintro(h|⟨id,i,a⟩)
  ·exact .inl h
  by_cases c:id=k
  ·subst c;exact .inr ⟨id,by rw[l];simp,a⟩
  rw[bX _ _ _ _ c] at i;exact .inr ⟨id,i,a⟩
 rintro(h|⟨id,i,a⟩)
 ·exact .inl h
 by_cases c:id=k
 ·subst c;exact .inr ⟨id,by rw[bW];simp,a⟩
 exact .inr ⟨id,by rw[bX _ _ _ _ c];exact i,a⟩
theorem Rel.IC{K:Ctx}{β:Map}{s:S}{a:Act}{w:World}(h:Rel K β s a w)(k:Nat){e:E}(m:s.H k=some e)(p: ∀X,cF β w X k e->cF β w X k e'):Rel K β {s with H:=aU s.H k (some e')} a w:=by
 have er:=ZY (K:=K) (β:=β) (e':=e') m;refine {h with heap:= ?_,cZ:= ?_}
 ·intro id l n;show _/\cF β w (own K β (aU s.H k (some e'))) id l;rw[er];by_cases o:id=k
  ·subst o;have c:aU s.H id (some e') id=some l:=n;rw[bW] at c;cases c;obtain⟨q,r⟩:=h.heap id e m;exact⟨q,p _ r⟩
  have c:aU s.H k (some e') id=some l:=n;rw[bX _ _ _ _ o] at c;exact h.heap id l c
 intro i;show bn β w (own K β (aU s.H k (some e'))) _ _;rw[er];exact h.cZ i
section
variable {K:Ctx} {s:S} {d:Option Tmp} {ty:TypeId} {pos:String} {af:Array Edge} {g:Option (Nat×Bool)}
theorem NI{f:FuncId}{c:Operand}{k:Array Operand}{l:Array TypeId}(m:List V)(args:List V)(r:V)
  (F:iV K.P f) (I:s.get c= .fn f m) (L: ∀i,d=some i->Nat.blt i K.nt=true) (R:fo (k.toList.map s.get++m) args) (U:gn gl args=true) (h:Ea K.P K.G f args r):
  dS K ⟨d,.call {callee:= .value c,args:=k,argTypes:=l},ty,pos,af,g⟩ s (s.put d r):=by
 obtain⟨D,W,Y,b⟩:=F;intro β a w next Q o j
 have y:D.name≠ "runtime.NumGoroutine" :=by simpa using Y
 have z:D.body≠none:=by intro e;simp[e] at b
 obtain⟨us,A,B⟩:=(I▸o.get c).G7;have p:(execOp a.eval ⟨d,.call {callee:= .value c,args:=k,argTypes:=l},ty,pos,af,g⟩).run K.P w= .ok (.enter f (k.map a.eval++us)) w:=by
  simp[execOp,resolve,Deferred.ofValue,A,invoke,callFunc,W,y,z]
 unfold Oper.wp;rw[p,Oper.upon_enter];have n:=(dt.le ((o.nY k.toList).app B) R).Il U;have q:=h w (own K β s.H) _ o.Bw o.Ip n;have t:(List.map a.eval k.toList++us.toList).toArray=k.map a.eval++us:=by rw[<-vw,<-Array.toList_append]
 rw[t] at q;refine q.mono ?_;rintro e v ⟨u,rfl,x,M⟩;exact j β _ v ((o.grow x).put d L (M.any λ_ h=>h))
theorem q7{s:S}{d:Option Tmp}{v:V}{e:E}:cP.app ⟨e9 d v,[(k,some e)],[(k,true)]⟩ s=(s.new k e).put d v:=by cases d<;>rfl
theorem ov{s:S}{d:Option Tmp}{v:V}:cP.app ⟨e9 d v,[],[]⟩ s=s.put d v:=by cases d<;>rfl
theorem Yq{v:V}(a: ∀k,u k=false->s.u k=false)(i:jS K.nt d=true)(n:s.get x=v)
  (h:tL d u v l=some (e,m,c)):dS K ⟨d,.box t x,ty,pos,af,g⟩ s (e.app s):=by
 unfold tL at h;split at h
 ·split at h
  ·rename_i o p;cases h;rw[q7];exact abc _ (a _ o) x v (gO i) n p
  cases h
 cases h
theorem Zf{H:Nat->Option E}(x:Operand)(v:V)(i:List T)(n:v.val=true)(k:v.cs=i.map .t):A5 P H ⟨d,.box t x,ty,pos,af,g⟩ [v] (.aP i):=by
 intro β w X a _ o p;obtain⟨l,q⟩:=(show bn β w X v (a x) from p.1).cells n;have c:(execOp a ⟨d,.box t x,ty,pos,af,g⟩).run P w= .ok (.value (.pointer (some ⟨w.heap.size,0,none⟩))) (w.alloc (.cells (a x).cells t)):=by
  simp[execOp,Instr.box,newVar,newRow]
 refine⟨_,_,c,Ext.alloc _ _ _,?_⟩;refine .aP i w.heap.size 0 (λj=>(a x).cells.getD j undef) aX (λh=>by have:=o _ h;omega) (λj e=>?_) λj y m=>?_
 ·rw[dp,World.cell?_alloc_new]
  have:j<(a x).cells.size:=by rw[l,k];simpa using e
  simp[this]
 have e:j<(a x).cells.size:=by rw[l,k,c6];exact(bR.1 m).1
 have r:=q j (.t y) (a x).cells[j] (by rw[k,et,m];rfl) (by simp[e]);cases r with
 |t _ _ h=>
  have:(a x).cells.getD j undef=(a x).cells[j]:=by simp[e]
  rw[this];exact h.mono (Ext.alloc X _ _) λ_ _ h=>h
theorem WS{v:V}(a:jS K.nt d=true)(i:s.get x=v)
  (h:Gl d v l=some (e,m,c)):dS K ⟨d,.box t x,ty,pos,af,g⟩ s (e.app s):=by
 unfold Gl at h;split at h
 ·split at h
  ·rename_i k n o;cases h;rw[ov];exact Je (vals:=[nm v]) (gO a) ⟨i▸tv _,trivial⟩ (Zf x _ k n (ow o))
  cases h
 cases h
theorem VE{a:List (Nat×cj)}(n:dT K.P a){i:cj}(o:dw a t=some i)(p: ∀k,u k=false->s.u k=false)(q:jS K.nt d=true)
  (h:tL d u (gM i.z) l=some (e,m,c)):dS K ⟨d,.alloc t,ty,pos,af,g⟩ s (e.app s):=by
 unfold tL at h;split at h
 ·split at h
  ·rename_i r x;cases h;rw[q7];obtain⟨A,y,_⟩:=n _ _ o;exact Zz _ (p _ r) (gO q) y x
  cases h
 cases h
theorem Vx{l:List (Nat×cj)}(U:dT K.P l){C:dK}(W:C.cb=l){H:Nat->Option E}{a v:V}(G: ∀k e,H k=some e->s.H k=some e)
  (I:s.get x=a) (L:s.get y=v) (h:FJ C t H a v n=some (e,m,c)) (p:ch m):dS K ⟨none,.store t x y,ty,pos,af,g⟩ s (e.app s):=by
 subst W;unfold FJ at h;split at h
 ·cases h
 rename_i i Y;obtain⟨N,Q,_⟩:=U _ _ Y;split at h
 ·split at h
  ·rename_i cs q;split at h
   ·rename_i z A B b;cases h;exact Zx _ _ _ _ cs v I L (G _ _ q) Q z A B b
   cases h
  cases h
 ·split at h
  ·rename_i f R j o u r D n q F;split at h
   ·rename_i z A B;cases h;obtain⟨rfl,rfl,M,rfl,_⟩:=p;exact VT x y _ _ _ f o r u I (v:=nm v) (by rw[L];exact tv v) (ow F) z (G _ _ q) Q M (cK A) (ea B)
   cases h
  cases h
 cases h
theorem Ai{k i n:Nat}: ∀{m:List (Nat×Nat×V)},ch (tO k i n m)-> ∀e c l,(e,c,l)∈m->i<=c->c<i+n->e=k
 |h::m,a,e,c,l,hm,o,p=>by
  simp only[tO] at a;rcases dN.1 hm with rfl|hm
  ·have r:Nat.ble i c=true:=Nat.ble_eq_true_of_le o;have x:Nat.blt c (i+n)=true:=by simpa[Nat.blt_eq] using p
   simp only[r,x,Bool.and_self,cond_true] at a;exact a.1
  cases q:(Nat.ble i h.2.1&&Nat.blt h.2.1 (i+n)) with
  |true=>rw[q] at a;exact Ai a.2 e c l hm o p
  |false=>rw[q] at a;exact Ai a e c l hm o p
theorem Aj{k off n:Nat}: ∀{l:List (Nat×Nat×V)},ch (tP k off n l)-> ∀e c i,(e,c,i)∈l->off<=c->c<off+n->e≠k
 | [],_,_,_,_,hm,_,_=>by cases hm
 |h::l,a,e,c,i,hm,m,o=>by
  unfold tP at a;rcases dN.1 hm with rfl|hm
  ·have q:Nat.ble off c=true:=Nat.ble_eq_true_of_le m;have r:Nat.blt c (off+n)=true:=by simpa[Nat.blt_eq] using o
   simp only[q,r,Bool.and_self,cond_true] at a;exact a.1
  cases p:(Nat.ble off h.2.1&&Nat.blt h.2.1 (off+n)) with
  |true=>rw[p] at a;exact Aj a.2 e c i hm m o
  |false=>rw[p] at a;exact Aj a e c i hm m o
theorem UF{C:dK}(kp:dT K.P C.cb){H:Nat->Option E}{a v:V}{N:List ct}(hH: ∀k e,H k=some e->s.H k=some e)
  (D:s.get x=a) (hy:s.get y=v) (h:Fk C t H a v M=some (e,lZ,N)) (I:ch lZ):dS K ⟨none,.store t x y,ty,pos,af,g⟩ s (e.app s):=by
 unfold Fk at h;split at h
 ·rename_i i id gen sz k F r M T;obtain⟨ahb,eZ,_⟩:=kp _ _ T;split at h
  ·rename_i fm m L p er xr;split at h
   ·rename_i l o hY;cases h;simp only[Bool.and_eq_true] at o;obtain⟨rfl,eH,b7,df⟩:=I;obtain⟨k7,Q⟩:=ch.app df;obtain⟨cT,cu⟩:=yR hY k7;refine T0 x y _ _ _ fm m p r v er D hy o.1 o.2.1 (hH _ _ xr) eH eZ (cK o.2.2.1) (by simpa[Nat.blt_eq] using o.2.2.2.2) b7 (ea o.2.2.2.1) (Ai Q) λj hj=>?_;have G:=bs (show j<(l.map (·.2)).length by simp[cT];exact hj);exact⟨_,cu j _ G⟩
   cases h
  cases h
 ·rename_i i id gen sz k F q n r M T;obtain⟨ahb,eZ,_⟩:=kp _ _ T;split at h
  ·rename_i fm m L p er xr;split at h
   ·rename_i l o hY;cases h;simp only[Bool.and_eq_true] at o;obtain⟨rfl,eH,b7,df⟩:=I;obtain⟨k7,Q⟩:=ch.app df;obtain⟨Q,pf⟩:=ch.app Q;obtain⟨pf,Qb⟩:=ch.app pf;obtain⟨cT,cu⟩:=yR hY k7;have R:=cK o.2.2.1;have B: ∀x,x∈(er.drop q.toNat).take n->x∈er:=λx D=>eV (fR D);have A: ∀x,x∈er->x∈er.take q.toNat\/x∈(er.drop q.toNat).take n\/x∈(er.drop q.toNat).drop n:=λx D=>by
     rw[<-s6 q.toNat er,dZ] at D;rcases D with h|h
     ·exact .inl h
     rw[<-s6 n (er.drop q.toNat),dZ] at h;exact .inr h
    refine Td x y _ _ _ fm m p r v er D hy o.1 o.2.1 (hH _ _ xr) eH eZ R (by simpa[Nat.blt_eq] using o.2.2.2.2) b7 (ea o.2.2.2.1) (λf U u hm=>?_) (λf U W hm=>?_) λj hj=>?_
    ·rcases dZ.1 hm with c|c
     ·exact⟨u,fR c,λz=>bA z.1 (Aj pf f U u c z.2.1 z.2.2),λ_=>rfl⟩
     rcases dZ.1 c with c|c
     ·obtain⟨W,aJ,a2,a3⟩:=zl c;refine⟨W,B _ aJ,λz=>?_,λz=>a3 λY=>z ⟨Ai Q f U W aJ Y.1 O,Y.1,O⟩⟩;have b:=bs (O:U-F<v.cs.length);rw[a2 z.2.1 _ b];exact b
     exact⟨u,eV (eV c),λz=>bA z.1 (Aj Qb f U u c z.2.1 z.2.2),λ_=>rfl⟩
    ·rcases A _ hm with c|c|c
     ·exact⟨W,dZ.2 (.inl c)⟩
     ·obtain⟨v1,h2⟩:=Am (off:=F) (vs:=v.cs) c;exact⟨v1,dZ.2 (.inr (dZ.2 (.inl h2)))⟩
     exact⟨W,dZ.2 (.inr (dZ.2 (.inr c)))⟩
    have G:=bs (show j<(l.map (·.2)).length by simp[cT];exact hj);exact⟨_,B _ (cu j _ G)⟩
   cases h
  cases h
 cases h
theorem dS.afC{K:Ctx}{s c:S}(h:dS K o s b)(p:b.le K c):dS K o s c:=
 λβ a w next Q q r=>h β a w next Q q λi m n k=>let ⟨e,l⟩:=p i m n k;r e m n l
theorem Lu{z:List T}: ∀{l:List (Nat×Nat)} {j m:Nat},wL z l=true->tT l j=some m->z[j]? =some .fj
 |p::l,j,m,h,a=>by
  simp only[wL,Bool.and_eq_true] at h;simp only[tT] at a;cases c:Nat.beq p.1 j with
  |true=>
   rw[<-cK c];have e:=h.1;split at e
   ·assumption
   cases e
  |false=>rw[c] at a;exact Lu h.2 a
theorem V1{K:Ctx}{s:S}(k:Nat){L n:Nat}{z:List T}(e:List dO)(m:Nat)(B:s.H k=some (.arr t gen L (List.replicate n z)))(r:(aO e m).ty=t)(D:(aO e m).size=L)
  (Y:wL z (aO e m).bm=true):s.le K {s with H:=aU s.H k (some (.a' e m gen (List.replicate n (z.map iH)) []))}:=by
 intro β a w h;refine⟨_,h.drop k (.a' e m gen (List.replicate n (z.map iH)) []) (by rw[B];simp) ?_⟩;have l:=(h.heap k _ B).2;subst r;subst D;refine⟨l.1,?_⟩;have o: ∀b,own K (β.drop k) (aU s.H k (some (.a' e m gen (List.replicate n (z.map iH)) []))) b->own K β s.H b:=by
  rintro b (f|⟨id,r,D⟩)
  ·exact .inl f
  refine .inr ⟨id,λF=>?_,ot D⟩;by_cases R:id=k
  ·subst R;rw[B] at F;cases F
  rw[bX _ _ _ _ R] at r;exact r F
 rcases l.2 with ⟨aJ,a2⟩|⟨b,v,aJ,a2,a3,a4,a5⟩
 ·have:n=0:=by simpa using a2
  subst this;exact .inl ⟨aJ,rfl,λc p=>p.1 rfl⟩
 refine .inr ⟨b,v,λ_ _ _=>False,aJ,a2,by simpa using a3,λG M=>?_,λi j G x u A U N=>Cell.of ?_,λ_ _ _ h=>h.elim,λ_ _ _ _ _ h=>h.elim,λc=>⟨λp=>bA rfl p.1,λ⟨_,_,p⟩=>p.elim⟩⟩
 ·obtain⟨P,rfl⟩:=pI.1 M;rw[c6];exact a4 z (pI.2 ⟨P,rfl⟩)
 rw[s3] at A;split at A
 ·rename_i I;cases A;rw[et] at U;obtain⟨y,W,rfl⟩:=Option.map_eq_some_iff.1 U;have q:=(a5 i j z y u (by rw[s3,a1 I]) W N).mono (Ext.refl _ _) λb _=>o b;cases Q:(aO e m).eg j with
  |none=>exact .iW _ _ _ q.xY (λ_ h=>h)
  |some V=>
   have:=Lu Y Q;rw[W] at this;cases this;cases q;exact .nil _ _ λ_ h=>h
 cases A
theorem WL{C:dK}(kp:dT K.P C.cb){v w:V}{f:List ct}(I: ∀k,u k=false->s.u k=false)(cv:jS K.nt d=true)
  (hx:s.get x=v) (hy:s.get y=w) (h:Ge C d t u v w f=some (e,lZ,M)) (L:ch lZ):dS K ⟨d,.makeSlice t x y,ty,pos,af,g⟩ s (e.app s):=by
 unfold Ge at h;split at h
 ·cases h
 rename_i i l;split at h
 ·rename_i o N;have eZ:K.P.underlying t=some (.slice o):=(kp _ _ l).ic.2.2.2 o N;split at h
  ·cases h
  rename_i j Q;obtain⟨qC,he,_⟩:=kp _ _ Q;split at h
  ·rename_i n m k R f p r;split at h
   ·rename_i T U h3 z;cases h;obtain⟨hnm,A,B,_⟩:=L;obtain⟨mh,adh,rfl⟩:=ps A;have D:m=n:=O
    subst D;simp only[Bool.and_eq_true] at z;have c:=ea z.2;have W:m.toNat*j.bytes<=1000000000*200000:=nz O c;have bP:=iS B;have Q:=N9 (K:=K) (s:=s) (d:=d) (ty:=ty) (pos:=pos) (af:=af) (g:=g) k (I _ T) x y o m.toNat p (gO cv) eZ he (by rw[hx,<-bP]) (by rw[hy,<-bP]) (ow r) U h3 z.1 O O;refine Q.I7 λβ a w b7=>?_;have hk:((s.new k (.arr o 1 j.size (List.replicate m.toNat p))).put d (.bc k 1 j.size 0 m.toNat)).H k=some (.arr o 1 j.size (List.replicate m.toNat p)):=by
     cases d<;>exact bW _ _ _
    have Y:=b7.IC k hk λX=>Zd;rw[q7,C6]
    have: ∀F G:E,({((s.new k F).put d (.bc k 1 j.size 0 m.toNat)) with H:=aU ((s.new k F).put d (.bc k 1 j.size 0 m.toNat)).H k (some G)}:S)=(s.new k G).put d (.bc k 1 j.size 0 m.toNat):=by
     intro F G;have I: ∀a b:Option E,aU (aU s.H k a) k b=aU s.H k b:=by
      intro a b;funext i;by_cases l:i=k
      ·subst l;rw[bW,bW]
      rw[bX _ _ _ _ l,bX _ _ _ _ l,bX _ _ _ _ l]
     cases d<;>simp only[S.put,S.new,I]
    rw[this] at Y;exact Y
   cases h
  ·rename_i n m k qD fm q R f p r;split at h
   ·rename_i T U h3 z;cases h;obtain⟨adL,kW,hnm,A,B,_⟩:=L;obtain⟨mh,adh,rfl⟩:=ps A;have D:m=n:=O
    subst D;simp only[Bool.and_eq_true] at U z;have c:=ea z.2;have W:m.toNat*j.bytes<=1000000000*200000:=nz O c;have bP:=iS B;have Q:=N9 (K:=K) (s:=s) (d:=d) (ty:=ty) (pos:=pos) (af:=af) (g:=g) k (I _ T) x y o m.toNat p (gO cv) eZ he (by rw[hx,<-bP]) (by rw[hy,<-bP]) (ow r) U.1 h3 z.1 O O;have hk:((s.new k (.arr o 1 j.size (List.replicate m.toNat p))).put d (.bc k 1 j.size 0 m.toNat)).H k=some (.arr o 1 j.size (List.replicate m.toNat p)):=by
     cases d<;>exact bW _ _ _
    have cD:=V1 (K:=K) k fm q hk adL kW U.2;rw[q7,C6]
    have: ∀F G:E,({((s.new k F).put d (.bc k 1 j.size 0 m.toNat)) with H:=aU ((s.new k F).put d (.bc k 1 j.size 0 m.toNat)).H k (some G)}:S)=(s.new k G).put d (.bc k 1 j.size 0 m.toNat):=by
     intro F G;have I: ∀a b:Option E,aU (aU s.H k a) k b=aU s.H k b:=by
      intro a b;funext i;by_cases l:i=k
      ·subst l;rw[bW,bW]
      rw[bX _ _ _ _ l,bX _ _ _ _ l,bX _ _ _ _ l]
     cases d<;>simp only[S.put,S.new,I]
    rw[this] at cD;exact Q.afC cD
   cases h
  cases h
 cases h
theorem UH{C:dK}(F:dT K.P C.cb)(_hn0:C.c'=K.c'){G:TypeId}{H:Nat->Option E}{v w:V}{o:List ct}{L:List dd}(Y: ∀k e,H k=some e->s.H k=some e)(b:jS K.nt d=true)
  (f:s.get x=v) (u:s.get y=w) (h:Fm C d t G H v w I=some (e,L,o)) (p:ch L):dS K ⟨d,.call {callee:= .builtin .append,args:= #[x,y],argTypes:= #[t,G]},ty,pos,af,g⟩ s (e.app s):=by
 unfold Fm at h;split at h
 ·cases h
 rename_i i M;split at h
 ·rename_i Q q;have N:K.P.underlying t=some (.slice Q):=(F _ _ M).ic.2.2.2 Q q;split at h
  ·cases h
  rename_i j r;obtain⟨qC,T,_⟩:=F _ _ r;split at h
  ·rename_i k gen U off len a R I hw;split at h
   ·rename_i e' l z c xr;split at h
    ·rename_i h1 n A;cases h;obtain⟨rfl,rfl,rfl,rfl,m,B,D,_⟩:=p;obtain⟨a8,rfl⟩:=vO m;simp only[Bool.and_eq_true] at n A;have e1:=cK A.1;have e2:=cK A.2;have kQ:=cK h1;subst e1;subst e2;subst kQ;have W:(c.length+a.length)*j.bytes<=1000000000*140000:=nz a8 (ea n.2.2);have r:=Yv (K:=K) (s:=s) (d:=d) (ty:=ty) (pos:=pos) (af:=af) (g:=g) (gen:=l) (size:=j.size) k x y e' c a (gO b) f (by rw[u,<-hw];exact tv w) (Y _ _ xr) N T n.1 n.2.1 B D O O;rw[dB]
     have: ∀v e,cP.app ⟨e9 d v,[(k,some e)],[]⟩ s=({s with H:=aU s.H k (some e)}:S).put d v:=by intro v e;cases d<;>rfl
     rw[this];exact r
    cases h
   cases h
  cases h
 cases h
theorem TT{C:dK}(kp:dT K.P C.cb){lR:TypeId}{H:Nat->Option E}{v w:V}{W:List ct}(L: ∀k e,H k=some e->s.H k=some e)(Y:jS K.nt d=true)
  (b:s.get x=v) (f:s.get y=w) (h:EF C d t lR H v w U=some (e,lZ,W)) (p:ch lZ):dS K ⟨d,.call {callee:= .builtin .append,args:= #[x,y],argTypes:= #[t,lR]},ty,pos,af,g⟩ s (e.app s):=by
 unfold EF at h;split at h
 ·cases h
 rename_i i aH;split at h
 ·rename_i u M;have N:K.P.underlying t=some (.slice u):=(kp _ _ aH).ic.2.2.2 u M;split at h
  ·cases h
  rename_i j z;obtain⟨qC,T,_⟩:=kp _ _ z;split at h
  ·rename_i k gen A off len xL g3 z3 ahr n3 R U;split at h
   ·rename_i fm m c a afK m3 acd c' l adD B D;split at h
    ·rename_i n o Q;cases h;obtain⟨rfl,rfl,rfl,rfl,ur,ng,rfl,rfl,h3,F,HP,BM,_⟩:=p;obtain⟨a8,rfl⟩:=vO F;simp only[Bool.and_eq_true] at n o Q;have G:=cK n.1;have I:=cK n.2;have kQ:=cK Q.1;subst G;subst I;subst kQ;have hmul:(a.length+(c'::l).length)*j.bytes<=1000000000*140000:=nz a8 (ea o.2.2);have z:=Xi (K:=K) (s:=s) (d:=d) (ty:=ty) (pos:=pos) (af:=af) (g:=g) (gen:=c) (size:=j.size) k xL acd (l.length+1) x y u fm afK m m3 a (c'::l) adD (gO Y) b f (L _ _ B) (L _ _ D) h3 rfl N T o.1 ur ng HP BM (Nat.succ_pos _) Q.2.1 Q.2.2 O O;rw[dB]
     have: ∀v e,cP.app ⟨e9 d v,[(k,some e)],[]⟩ s=({s with H:=aU s.H k (some e)}:S).put d v:=by intro v e;cases d<;>rfl
     rw[this];exact z
    cases h
   ·rename_i e' c q a G4 B D;split at h
    ·rename_i n o;cases h;obtain⟨rfl,rfl,rfl,rfl,r,ac6,sa,rfl,_⟩:=p;simp only[Bool.and_eq_true] at n o;have G:=cK n.1;have I:=cK n.2;have xd:=cK o.1;have xe:=cK o.2.1;have hp:0<j.size:=by simpa[Nat.blt_eq] using o.2.2
     subst G;subst I;subst xd;subst xe;subst r;have z:=VU (K:=K) (s:=s) (d:=d) (ty:=ty) (pos:=pos) (af:=af) (g:=g) _ _ _ _ x y _ _ (gO Y) b f (L _ _ B) N T hp ac6 sa
     have: ∀v e,cP.app ⟨e9 d v,[(xL,some e)],[]⟩ s=({s with H:=aU s.H xL (some e)}:S).put d v:=by intro v e;cases d<;>rfl
     rw[this];exact z
    cases h
   cases h
  ·rename_i k gen A off len U;split at h
   ·rename_i e' c q a B;split at h
    ·rename_i n o;cases h;obtain⟨rfl,rfl,r,_⟩:=p;simp only[Bool.and_eq_true] at n;have G:=cK n.1;have I:=cK o;have hp:0<j.size:=by simpa[Nat.blt_eq] using n.2
     subst G;subst I;subst r;rw[ov];exact UL (K:=K) (s:=s) (d:=d) (ty:=ty) (pos:=pos) (af:=af) (g:=g) _ _ x y _ _ _ (gO Y) b (dz.of_eq f) (L _ _ B) N T hp
    cases h
   cases h
  cases h
 cases h
theorem aaL{v:V}{x:T}(h:ym v=some x):v= .t x:=by cases v<;>simp[ym] at h;subst h;rfl
theorem Kh{d:dO}: ∀{j:Nat} {a:List V} {r:List T} {c:List (Nat×Nat×V)},vS d j a=some (r,c)->r.length=a.length/\
  (∀i b v,(i,b,v)∈c->i=0/\ ∃k,b=j+k/\a[k]? =some v)/\(∀(k:Nat) x,r[k]? =some x->(∃v,(0,j+k,v)∈c)\/(d.eg (j+k)=none/\a[k]? =some (.t x)))
 |j,[],r,c,h=>by cases h;exact⟨rfl,λ_ _ _ h=>bA h List.not_mem_nil,λk x h=>by simp at h⟩
 |j,v::a,r,c,h=>by
  simp only[vS] at h;split at h
  ·cases h
  rename_i G n B;obtain⟨aJ,a2,a3⟩:=Kh B;have y: ∀i b du,(i,b,du)∈n->i=0/\ ∃k,b=j+k/\(v::a)[k]? =some du:=λi b du hm=>by
   obtain⟨D,k,I,F⟩:=a2 i b du hm;exact⟨D,k+1,O,by simpa using F⟩
  split at h
  ·rename_i L z;cases A:v.one with
   |false=>rw[A] at h;cases h
   |true=>
    rw[A] at h;cases h;refine⟨by simp[aJ],λi b du hm=>?_,λk x l=>?_⟩
    ·rcases dN.1 hm with e|hm
     ·cases e;exact⟨rfl,0,rfl,rfl⟩
     exact y i b du hm
    cases k with
    |zero=>exact .inl ⟨v,eR⟩
    |succ k=>
     have:=a3 k x (by simpa using l);rw[show j+1+k=j+(k+1) by omega] at this;rcases this with ⟨du,o⟩|⟨m,p⟩
     ·exact .inl ⟨du,ev _ o⟩
     exact .inr ⟨m,by simpa using p⟩
  rename_i z;split at h
  ·rename_i Q q;cases h;refine⟨by simp[aJ],y,λk x l=>?_⟩;cases k with
   |zero=>simp at l;subst l;exact .inr ⟨z,by simp[aaL q]⟩
   |succ k=>
    have:=a3 k x (by simpa using l);rw[show j+1+k=j+(k+1) by omega] at this;rcases this with m|⟨m,p⟩
    ·exact .inl m
    exact .inr ⟨m,by simpa using p⟩
  cases h
theorem aaV{u:TypeDesc}{q:Nat}(k:Nat)(hk:s.u k=false)(o:Array (Nat×Operand))(e:TypeId)(n M:List V)(A:List dO)(m:Nat)(r:List T)(f:List (Nat×Nat×V))(cv: ∀i,d=some i->Nat.blt i K.nt=true)(B:fo ((o.toList.map (·.2)).map s.get) n)
  (hu:K.P.underlying t=some (.slice e)) (he:cd K.P e u z size q) (D:Nat.beq o.toList.length n.length=true) (hp:Nat.blt 0 size=true) (F:Nat.ble (1*size) 16777216=true)
  (hY:kD (λi=>some (i*size,size)) (List.replicate (1*size) .c3) ((o.toList.map (·.1)).zip n)=some M) (N:vS (aO A m) 0 M=some (r,f)) (hcl:M.length=size) (ur:(aO A m).size=size) (ng:(aO A m).ty=e):
  dS K ⟨d,.buildSlice t 1 o,ty,pos,af,g⟩ s ((s.new k (.a' A m 1 [r] f)).put d (.bc k 1 size 0 1)):=by
 have adr:0<size:=by simpa[Nat.blt_eq] using hp
 obtain⟨x5,ag7,ag8⟩:=Kh N;intro β a w next Q b7 hkk
 have Hk:dt β w (own K β s.H) n ((o.toList.map (·.2)).map a.eval):=(b7.nY _).le B;have o5:=vh a.eval o.toList;obtain⟨l,h1,h2⟩:=vM (β:=β) (w:=w) (X:=own K β s.H) (λi=>some (i*size,size)) (o.toList.map (·.1)) n _ (List.replicate (1*size) .c3)
  ((Array.range (1*size)).map ((if 1*size=0 then #[] else z.cells)[· %(if 1*size=0 then #[] else z.cells).size]!)) _ (Ah _ _ _ _ _ aX) Hk (by simpa using cK D) hY
 have G:(execOp a.eval ⟨d,.buildSlice t 1 o,ty,pos,af,g⟩).run K.P w= .ok (.value (.slice (some ⟨w.heap.size,0,none⟩) 1 1)) (w.alloc (.cells l e)):=by
  have I:(o.toList.map λx=>match x with|(i,x)=>(i,a.eval x))=(o.toList.map (·.1)).zip ((o.toList.map (·.2)).map a.eval):=by rw[<-o5]
  have a8: ¬(1*size>2^24):=by have:=ea F;omega
  have h0: ¬1*size=0:=O
  simp only[execOp,Instr.buildSlice,Sem.run_bind,run_underlying hu,Result.andThen_ok,he.run_sizeOf,a8,if_false,Array.toList_map];simp only[h0,if_false] at h1;simp only[h0,if_false,Sem.run_pure,Sem.run_bind,he.sL,Result.andThen_ok];rw[I,h1];rfl
 unfold Oper.wp;rw[G];have p:l.size=size:=by
  have h:=h2.1;rw[lT] at h;omega
 have L:=b7.Ik k 1 hk l e (.a' A m 1 [r] f) (λβ' hU w' hw o0 R jv=>⟨cN _,Or.inr ⟨w.heap.size,l,λ_ _ _=>False,o0,by subst hw;rw[ng];exact jl _ _,by rw[p,ur];simp,λrow U=>by rw[mI.1 U,x5,hcl,ur],λi j row x y aJ a2 a3=>by
  have aH:=(bR.1 aJ).1;have Hu:i=0:=by simpa using aH
  subst Hu;simp at aJ;subst aJ;rw[fY,dp] at a3;refine⟨λv B=>⟨?_,λ_ h=>h⟩,λcG=>?_⟩
  ·obtain⟨_,b1,W,I⟩:=ag7 _ _ _ B;rw[dp] at W;subst W;exact R _ _ (h2.2 _ _ y I (by simpa using a3))
  rcases ag8 j x a2 with ⟨v,B⟩|⟨W,I⟩
  ·rw[dp] at B;exact bA B (cG v)
  rw[dp] at W;rw[W];have h6:=R _ _ (h2.2 _ _ y I (by simpa using a3));cases h6 with|t _ _ h=>exact .iW _ _ _ h λ_ h=>h,λ_ _ _ h=>h.elim,λ_ _ _ _ _ h=>h.elim,λc=>⟨λh=>bA h (jv c),λ⟨_,_,h⟩=>h.elim⟩⟩⟩)
 have Y:(w.alloc (.cells l e)).heap.size=w.heap.size+1:=World.size_alloc ..;have hZ:(w.alloc (.cells l e)).shape? w.heap.size=some (e,l.size):=by unfold World.shape?;rw[jl]
 have b:bn (β.put k (some (some w.heap.size,1))) (w.alloc (.cells l e)) (own K (β.put k (some (some w.heap.size,1))) (s.new k (.a' A m 1 [r] f)).H) (.bc k 1 size 0 1)
   (.slice (some ⟨w.heap.size,0*size,none⟩) 1 1):= .bc k 1 size 0 1 1 w.heap.size l.size e (cN _) (bW _ _ _) (Y▸mJ _) hZ (by rw[p];omega) (cN _) (by unfold maxLen;omega)
 rw[fY] at b;exact hkk _ _ _ (L.put d cv b)
theorem Nl{n j:Nat}{v:V}: ∀{a:List V} {i:Nat},(n,j,v)∈pW i a->j=0/\ ∃k,n=i+k/\a[k]? =some v
 |x::a,i,h=>by
  simp only[pW] at h;rcases dN.1 h with h|h
  ·cases h;exact⟨rfl,0,rfl,rfl⟩
  obtain⟨e,k,l,c⟩:=Nl h;exact⟨e,k+1,O,by simpa using c⟩
theorem Nk{v:V}: ∀{vs:List V} {i k:Nat},vs[k]? =some v->(i+k,0,v)∈pW i vs
 |x::vs,i,0,h=>by
  simp at h;subst h;exact eR
 |x::vs,i,k+1,h=>by have:=Nk (i:=i+1) (k:=k) (vs:=vs) (by simpa using h);rw[show i+1+k=i+(k+1) by omega] at this;exact ev _ this
theorem aaW{u:TypeDesc}{l B:Nat}(k:Nat)(hk:s.u k=false)(n:Nat)(q:Array (Nat×Operand))(e:TypeId)(p D:List V)(F:List dO)(m:Nat)(cv: ∀i,d=some i->Nat.blt i K.nt=true)(f:fo ((q.toList.map (·.2)).map s.get) p)
  (hu:K.P.underlying t=some (.slice e)) (he:cd K.P e u z l B) (G:Nat.beq q.toList.length p.length=true) (cG:Nat.blt 0 n=true) (M:l=1) (I:Nat.ble (n*l) 16777216=true)
  (hY:kD (λi=>some (i*l,l)) (List.replicate (n*l) .c3) ((q.toList.map (·.1)).zip p)=some D) (hcl:D.length=n) (N:(aO F m).size=1) (ng:(aO F m).ty=e):
  dS K ⟨d,.buildSlice t n q,ty,pos,af,g⟩ s ((s.new k (.a' F m 1 (List.replicate n [.aD []]) (pW 0 D))).put d (.bc k 1 1 0 n)):=by
 subst M;have L:0<n:=by simpa[Nat.blt_eq] using cG
 intro β a w next Q b7 T
 have Hk:dt β w (own K β s.H) p ((q.toList.map (·.2)).map a.eval):=(b7.nY _).le f;have o5:=vh a.eval q.toList;obtain⟨o,h1,h2⟩:=vM (β:=β) (w:=w) (X:=own K β s.H) (λi=>some (i*1,1)) (q.toList.map (·.1)) p _ (List.replicate (n*1) .c3)
  ((Array.range (n*1)).map ((if n*1=0 then #[] else z.cells)[· %(if n*1=0 then #[] else z.cells).size]!)) _ (Ah _ _ _ _ _ aX) Hk (by simpa using cK G) hY
 have af4:=ea I;have R:(execOp a.eval ⟨d,.buildSlice t n q,ty,pos,af,g⟩).run K.P w= .ok (.value (.slice (some ⟨w.heap.size,0,none⟩) n n)) (w.alloc (.cells o e)):=by
  have e2:(q.toList.map λx=>match x with|(i,x)=>(i,a.eval x))=(q.toList.map (·.1)).zip ((q.toList.map (·.2)).map a.eval):=by rw[<-o5]
  have a8: ¬(n*1>2^24):=O
  have h0: ¬n*1=0:=O
  simp only[execOp,Instr.buildSlice,Sem.run_bind,run_underlying hu,Result.andThen_ok,he.run_sizeOf,a8,if_false,Array.toList_map];simp only[h0,if_false] at h1;simp only[h0,if_false,Sem.run_pure,Sem.run_bind,he.sL,Result.andThen_ok];rw[e2,h1];rfl
 unfold Oper.wp;rw[R];have r:o.size=n:=by
  have h:=h2.1;rw[lT] at h;omega
 have U:=b7.Ik k 1 hk o e (.a' F m 1 (List.replicate n [.aD []]) (pW 0 D)) (λβ' hU w' hw L kU jv=>⟨cN _,Or.inr ⟨w.heap.size,o,λ_ _ _=>False,L,by subst hw;rw[ng];exact jl _ _,by rw[r,N];simp,λW A=>by rw[(pI.1 A).2,N];rfl,λi j W x y aJ a2 a3=>by
  have aH:=(bR.1 aJ).1;rw[C6] at aH;have A:W=[.aD []]:=(pI.1 (bF aJ)).2;subst A;have hj0:j=0:=by
   have:=(bR.1 a2).1;simpa using this
  subst hj0;rw[N,Nat.mul_one,oC] at a3;refine⟨λv f=>⟨?_,λ_ h=>h⟩,λsc=>?_⟩
  ·obtain⟨_,b1,e1,e2⟩:=Nl f;rw[dp] at e1;subst e1;exact kU _ _ (h2.2 _ _ y e2 (by simpa using a3))
  have bP:=bs (O:i<D.length)
  have:=Nk (i:=0) bP;rw[dp] at this;exact bA this (sc _),λ_ _ _ h=>h.elim,λ_ _ _ _ _ h=>h.elim,λc=>⟨λh=>bA h (jv c),λ⟨_,_,h⟩=>h.elim⟩⟩⟩)
 have Y:(w.alloc (.cells o e)).heap.size=w.heap.size+1:=World.size_alloc ..;have hZ:(w.alloc (.cells o e)).shape? w.heap.size=some (e,o.size):=by unfold World.shape?;rw[jl]
 have b:bn (β.put k (some (some w.heap.size,1))) (w.alloc (.cells o e)) (own K (β.put k (some (some w.heap.size,1))) (s.new k (.a' F m 1 (List.replicate n [.aD []]) (pW 0 D))).H) (.bc k 1 1 0 n)
   (.slice (some ⟨w.heap.size,0*1,none⟩) n n):= .bc k 1 1 0 n n w.heap.size o.size e (cN _) (bW _ _ _) (Y▸mJ _) hZ (by rw[r];omega) (cN _) (by unfold maxLen;omega)
 rw[fY] at b;exact T _ _ _ (U.put d cv b)
theorem abb{u:TypeDesc}{D:Nat}(k:Nat)(hk:s.u k=false)(n:Nat)(p:Array (Nat×Operand))(e:TypeId)(o:List V)(c:List (List T))(cv: ∀i,d=some i->Nat.blt i K.nt=true)(bJ:fo ((p.toList.map (·.2)).map s.get) o)
  (hu:K.P.underlying t=some (.slice e)) (he:cd K.P e u z size D) (I:Nat.beq p.toList.length o.length=true)
  (cG:c.length=n) (hp:Nat.blt 0 size=true) (F: ∀l,l∈c->l.length=size) (B:Nat.ble (n*size) 16777216=true)
  (hY:kD (λi=>some (i*size,size)) (List.replicate (n*size) .c3) ((p.toList.map (·.1)).zip o)=some (c.flatten.map .t)):
  dS K ⟨d,.buildSlice t n p,ty,pos,af,g⟩ s ((s.new k (.arr e 1 size c)).put d (.bc k 1 size 0 c.length)):=by
 subst cG;have adr:0<size:=by simpa[Nat.blt_eq] using hp
 intro β a w next Q b7 M
 have N:dt β w (own K β s.H) o ((p.toList.map (·.2)).map a.eval):=(b7.nY _).le bJ;have o5:=vh a.eval p.toList;obtain⟨m,A,G⟩:=vM (β:=β) (w:=w) (X:=own K β s.H) (λi=>some (i*size,size)) (p.toList.map (·.1)) o _ (List.replicate (c.length*size) .c3)
  ((Array.range (c.length*size)).map ((if c.length*size=0 then #[] else z.cells)[· %(if c.length*size=0 then #[] else z.cells).size]!)) _ (Ah _ _ _ _ _ aX) N (by simpa using cK I) hY
 have L:(execOp a.eval ⟨d,.buildSlice t c.length p,ty,pos,af,g⟩).run K.P w= .ok (.value (.slice (some ⟨w.heap.size,0,none⟩) c.length c.length)) (w.alloc (.cells m e)):=by
  have e2:(p.toList.map λx=>match x with|(i,x)=>(i,a.eval x))=(p.toList.map (·.1)).zip ((p.toList.map (·.2)).map a.eval):=by rw[<-o5]
  have a8: ¬(c.length*size>2^24):=by have:=ea B;omega
  simp only[execOp,Instr.buildSlice,Sem.run_bind,run_underlying hu,Result.andThen_ok,he.run_sizeOf,a8,if_false,Array.toList_map];by_cases v:c.length*size=0
  ·simp only[v,if_true] at A;simp only[v,if_true,Sem.run_pure,Sem.run_bind,Result.andThen_ok];rw[e2,A];rfl
  simp only[v,if_false] at A;simp only[v,if_false,Sem.run_pure,Sem.run_bind,he.sL,Result.andThen_ok];rw[e2,A];rfl
 unfold Oper.wp;rw[L];have q:m.size=c.flatten.length:=by
  have h:=G.1;rw[c6,lT] at h;exact h
 have R:c.flatten.length=c.length*size:=by
  rw[List.length_flatten]
  have:c.map List.length=List.replicate c.length size:=List.eq_replicate_iff.2 ⟨aX,λb a8=>by obtain⟨r,b7,rfl⟩:=eK.1 a8;exact F r b7⟩;rw[this];simp
 have U: ∀(c:List (List T)),(∀l,l∈c->l.length=size)-> ∀(i j:Nat) (l:List T) (x:T),c[i]? =some l->l[j]? =some x->c.flatten[i*size+j]? =some x:=by
  intro c;induction c with
  |nil=>intro _ i j l x h _;simp at h
  |cons r c mi=>
   intro hs i j l x A G;have b7:=hs r aX;rw[List.flatten_cons];cases i with
   |zero=>
    simp at A;subst A
    have:=(bR.1 G).1;rw[fY,dp,gJ this];exact G
   |succ i=>
    simp at A;rw[gU (by rw[b7,dj];omega)];rw[show(i+1)*size+j-r.length=i*size+j by rw[b7,dj];omega];exact mi (λl h=>hs l (by simp[h])) i j l x A G
 have W:=b7.new k 1 hk m e (.arr e 1 size c) (λβ' hU w' hw o0 kU=>⟨cN _,Or.inr ⟨w.heap.size,m,o0,by subst hw;exact jl _ _,by rw[q,R];exact cN _,F,λi j l x y aJ a2 a3=>by
  have h5:=U c F i j l x aJ a2;have h6:=G.2 (i*size+j) (.t x) y (by rw[et,h5];rfl) (by simpa using a3);have lD:=kU _ _ h6;cases lD with|t _ _ h=>exact h⟩⟩)
 have Y:(w.alloc (.cells m e)).heap.size=w.heap.size+1:=World.size_alloc ..;have hZ:(w.alloc (.cells m e)).shape? w.heap.size=some (e,m.size):=by unfold World.shape?;rw[jl]
 have f:bn (β.put k (some (some w.heap.size,1))) (w.alloc (.cells m e)) (own K (β.put k (some (some w.heap.size,1))) (s.new k (.arr e 1 size c)).H) (.bc k 1 size 0 c.length)
   (.slice (some ⟨w.heap.size,0*size,none⟩) c.length c.length):= .bc k 1 size 0 c.length c.length w.heap.size m.size e (cN _) (bW _ _ _) (Y▸mJ _) hZ (by rw[q,R];simp) (cN _)
    (by
     have a8:=ea B;unfold maxLen
     have:c.length*1<=c.length*size:=Nat.mul_le_mul_left _ O;omega)
 rw[fY] at f;exact M _ _ _ (W.put d cv f)
theorem Yj{C:dK}(W:dT K.P C.cb){n:Nat}{o:Array (Nat×Operand)}{a:List V}{Y:List ct}{b:List dd}(f: ∀k,u k=false->s.u k=false)(D:jS K.nt d=true)
  (L:a=(o.toList.map (·.2)).map s.get) (h:GG C d t n (o.toList.map (·.1)) u a Y=some (e,b,I)) (Q:ch b):dS K ⟨d,.buildSlice t n o,ty,pos,af,g⟩ s (e.app s):=by
 unfold GG at h;split at h
 ·cases h
 rename_i i v;split at h
 ·rename_i q R;have F:K.P.underlying t=some (.slice q):=(W _ _ v).ic.2.2.2 q R;split at h
  ·cases h
  rename_i j M;obtain⟨qC,G,_⟩:=W _ _ M;split at h
  ·rename_i k Y U;split at h
   ·rename_i p;cases h
    have:o= #[]:=by
     have:o.toList=[]:=by simpa using U
     simpa using this
    subst this;rw[q7];exact Yu k (f _ p) q (gO D) F G
   cases h
  ·split at h
   ·cases h
   rename_i cs l;split at h
   ·cases h
   rename_i r m;split at h
   ·rename_i N p x y T;cases h;have c:=cK p;obtain⟨z,A,B⟩:=zL j.size _ r c;rw[q7];refine abb _ (f _ N) _ o q (gH a) _ (gO D) (by rw[L];exact lP _) F G (by rw[sy];simpa using x) z T A y (by rw[l,B,ow m])
   cases h
  ·split at h
   ·cases h
   rename_i cs l;split at h
   ·cases h
   rename_i r m;split at h
   ·rename_i p x y;cases h;have c:=cK p;obtain⟨z,A,B⟩:=zL j.size _ r c;rw[ov];rw[<-Q.1];refine Je (vals:=gH a) (gO D) ?_ (Jx _ o q (gH a) _ F G ?_ (by simp[z]) A y (by rw[l,B,ow m]))
    ·rw[L];simp only[Op.operands];exact lP _
    rw[sy];simpa using x
   cases h
  ·split at h
   ·cases h
   rename_i cs l;split at h
   ·cases h
   rename_i r m;split at h
   ·rename_i p x y;cases h;have c:=cK p;obtain⟨z,A,B⟩:=zL j.size _ r c;rw[ov];refine Je (vals:=gH a) (gO D) ?_ (Jx _ o q (gH a) _ F G ?_ (by simp[z]) A y (by rw[l,B,ow m]))
    ·rw[L];simp only[Op.operands];exact lP _
    rw[sy];simpa using x
   cases h
  cases h
 cases h
theorem WM{C:dK}(L:dT K.P C.cb){n:Nat}{c:Array (Nat×Operand)}{a:List V}{p:List ct}{o:List dd}(Q: ∀k,u k=false->s.u k=false)(R:jS K.nt d=true)
  (U:a=(c.toList.map (·.2)).map s.get) (h:Gf C d t n (c.toList.map (·.1)) u a l=some (e,o,p)):dS K ⟨d,.buildSlice t n c,ty,pos,af,g⟩ s (e.app s):=by
 unfold Gf at h;split at h
 ·cases h
 rename_i i b;split at h
 ·rename_i z B;have W:K.P.underlying t=some (.slice z):=(L _ _ b).ic.2.2.2 z B;split at h
  ·cases h
  rename_i j f;obtain⟨N,Y,_⟩:=L _ _ f;split at h
  ·rename_i k A m l;split at h
   ·cases h
   rename_i cs x;split at h
   ·cases h
   rename_i r v D;split at h
   ·rename_i F y q G I;cases h;simp only[Bool.and_eq_true] at y q;rw[q7];exact aaV k (Q _ F) c z (tY ((aO A m).eg 0) a) cs A m r v (gO R) (by rw[U];exact Z0 _ _) W Y (by rw[UJ];simpa using q.1) I G x D (cK y.1) (cK y.2) (cK q.2)
   cases h
  ·rename_i k A m l _;split at h
   ·cases h
   rename_i cs x;split at h
   ·rename_i F y q G I;cases h;simp only[Bool.and_eq_true] at y q;have M:=cK y.1;rw[q7];exact aaW k (Q _ F) _ c z (gH a) cs A m (gO R) (by rw[U];exact lP _) W Y (by rw[sy];simpa using q.1) I M G x (cK y.2.1) (cK q.2.2) (cK q.2.1)
   cases h
  cases h
 cases h
theorem WR{C:dK}(z:C.P=K.P)(A:C.G=K.G){c:Operand}{k:Array TypeId}{a:List V}(B:jS K.nt d=true)
  (r:a=s.get c::i.toList.map s.get) (h:Gk C d a n=some (e,m,l)) (x:ch m):dS K ⟨d,.call {callee:= .value c,args:=i,argTypes:=k},ty,pos,af,g⟩ s (e.app s):=by
 unfold Gk at h;split at h
 ·rename_i f o args;split at h
  ·split at h
   ·rename_i p;cases h;rw[ov];obtain⟨⟨y,q⟩,_⟩:=x;rw[z] at y q;rw[A] at q;simp only[List.cons.injEq] at r;exact NI o _ _ y r.1.symm (gO B) (by rw[<-r.2];exact lP _) p q
   cases h
  ·cases h;rw[ov];obtain⟨p,⟨y,q⟩,_⟩:=x;rw[z] at y q;rw[A] at q;simp only[List.cons.injEq] at r;exact NI o _ _ y r.1.symm (gO B) (by rw[<-r.2];exact lP _) p q
  cases h
 cases h
mutual
theorem Mu{T D:Map}{w a:World}{X Y:Nat->Prop}: ∀{v:V} {u:Value},rC v=true->bn T w X v u->bn D a Y v u
 | .t (.int _ _),u,_,h=>by rw[dD h];exact .t _ _ (.int _ _)
 | .t (.bool _),u,_,h=>by rw[nk h];exact .t _ _ (.bool _)
 | .t (.str _),u,_,h=>by rw[gX h];exact .t _ _ (.str _)
 | .agg cs,u,e,h=>by
  simp only[rC] at e;cases h with|agg _ l m h=>exact .agg _ l m (λi c u k n=>ED e i c u k (h i c u k n))
 | .bL cs,u,e,h=>by
  simp only[rC] at e;cases h with|bL _ l m h=>exact .bL _ l m (λi c u k n=>ED e i c u k (h i c u k n))
 | .t (.aD _),_,e,_| .t .fj,_,e,_| .t .hf,_,e,_| .t .gp,_,e,_| .t .nl,_,e,_| .t .err,_,e,_=>by simp[rC] at e
 | .ref _ _,_,e,_| .aP _,_,e,_| .bc _ _ _ _ _,_,e,_| .cB _ _ _ _ _,_,e,_| .fn _ _,_,e,_| .c3,_,e,_=>by simp[rC] at e
theorem ED{T D:Map}{w a:World}{X Y:Nat->Prop}: ∀{cs:List V},tK cs=true-> ∀(i:Nat) c u,cs[i]? =some c->bn T w X c u->bn D a Y c u
 | [],_,_,_,_,h,_=>by simp at h
 |c::cs,e,0,l,u,k,h=>by
  simp only[tK,Bool.and_eq_true] at e;simp at k;subst k;exact Mu e.1 h
 |c::cs,e,i+1,l,u,k,h=>by simp only[tK,Bool.and_eq_true] at e;exact ED e.2 i l u (by simpa using k) h
end
theorem cF.read{β:Map}{w:World}{X Y:Nat->Prop}{a:List (List T)}{u:Value}(h:cF β w X k (.arr t gen size a))(B:bn β w X (.bc k gen size 0 a.length) u)
  (D: ∀b,Y b->X b) (F: ∀b,At β k b-> ¬Y b):cW w Y (.aD a) u:=by
 obtain⟨q,r⟩:=i' h;rcases e8 B r with ⟨y,b,n,G,rfl,m,I,f,L,Q,v⟩|⟨m,_,R,rfl⟩
 ·subst m;rcases h.2 with ⟨o,z⟩|⟨M,l,o,z,N,A,U⟩
  ·rw[r] at o;cases o
  rw[r] at o;cases o;rw[fY];refine .aD a b 0 size y (λi j=>l.getD (i*size+j) undef) I (F b (.inl ⟨_,r⟩)) Q A (λi j aH W=>?_) λi j p x aJ a2=>?_
  ·have c:i*size+j<l.size:=by
    have:(i+1)*size<=a.length*size:=dx _ aH;rw[dj] at this;omega
   rw[dp];simp[World.cell?,z,c]
  have aH:=(bR.1 aJ).1;have W:j<size:=by rw[<-A p (bF aJ)];exact(bR.1 a2).1
  have c:i*size+j<l.size:=by
   have:(i+1)*size<=a.length*size:=dx _ aH;rw[dj] at this;omega
  have:=U i j p x l[i*size+j] aJ a2 (by simp[c]);have e:l.getD (i*size+j) undef=l[i*size+j]:=by simp[c]
  rw[e];exact this.mono (Ext.refl _ _) λb _=>D b
 have:a=[]:=List.length_eq_zero_iff.1 R;subst this;exact .fO _ _
theorem cF.afe{β:Map}{w:World}{X G:Nat->Prop}{l:List dO}{m:Nat}{a:List (List T)}{u:Value}(h:cF β w X k (.a' l m gen a []))(U:bn β w X (.bc k gen (aO l m).size 0 a.length) u)
  (W: ∀b,G b->X b) (L: ∀b,At β k b-> ¬G b):cW w G (.aD a) u:=by
 obtain⟨q,D⟩:=th h;rcases e8 U D with ⟨I,b,n,Y,rfl,o,f,hs,t,v,hm⟩|⟨o,_,M,rfl⟩
 ·subst o;rcases h.2 with ⟨p,Q⟩|⟨ga,r,B,p,Q,h3,R,N,_,_,P⟩
  ·rw[D] at p;cases p
  rw[D] at p;cases p;rw[fY];have y: ∀i j,i<a.length->j<(aO l m).size->i*(aO l m).size+j<r.size:=λi j aH F=>by
   have:(i+1)*(aO l m).size<=a.length*(aO l m).size:=dx _ aH;rw[dj] at this;omega
  refine .aD a b 0 (aO l m).size I (λi j=>r.getD (i*(aO l m).size+j) undef) f (L b (.inl ⟨_,D⟩)) v R (λi j aH F=>?_) λi j z x aJ a2=>?_
  ·have:=y i j aH F;rw[dp];simp[World.cell?,Q,this]
  have aH:=(bR.1 aJ).1;have F:j<(aO l m).size:=by rw[<-R z (bF aJ)];exact(bR.1 a2).1
  have A:=y i j aH F
  have:=(N i j z x r[i*(aO l m).size+j] aJ a2 (by simp[A])).none;have e:r.getD (i*(aO l m).size+j) undef=r[i*(aO l m).size+j]:=by simp[A]
  rw[e];exact this.yj W λc V=>L c (.inr ((P c).2 ⟨i,j,V⟩))
 have:a=[]:=List.length_eq_zero_iff.1 M;subst this;exact .fO _ _
def tw:V->List Nat
 | .bc k _ _ _ _=>[k]
 |_=>[]
mutual
def pT(H:Nat->Option E):V->List Nat
 | .bc k _ _ _ _=>[k]
 | .ref id _=>id::(match H id with
  |some (.cells cs)=>cs.flatMap tw
  |_=>[])
 | .agg cs=>oK H cs
 | .bL cs=>oK H cs
 | .fn _ cs=>oK H cs
 | .t _| .aP _| .cB _ _ _ _ _| .c3=>[]
def oK(H:Nat->Option E):List V->List Nat
 | []=>[]
 |v::a=>pT H v++oK H a
end
section
variable {β:Map} {w:World} {X X1:Nat->Prop} {H:Nat->Option E}
theorem Nt{v:V}{x:T}{r:List dd}{u:Value}(q: ∀k e,H k=some e->cF β w X k e)(l: ∀b,X1 b->X b)(z: ∀k,k∈tw v-> ∀b,At β k b-> ¬X1 b)
  (h:w7 H v=some (x,r)) (a:ch r) (n:bn β w X v u):cW w X1 x u:=by
 cases v with
 |bc k gen A B D=>
  simp only[w7] at h;split at h
  ·rename_i ty c o i p;cases h;obtain⟨rfl,rfl,rfl,rfl,_⟩:=a;exact(q k _ p).read n l (z k (by simp[tw]))
  ·rename_i F m c i p;cases h;obtain⟨rfl,rfl,rfl,rfl,_⟩:=a;exact(q k _ p).afe n l (z k (by simp[tw]))
  cases h
 |t y=>
  simp only[w7] at h;cases h;cases n with|t _ _ h=>exact(h.mono (Ext.refl _ _) λb _=>l b).xY
 |agg=>cases h
 |bL=>cases h
 |ref=>cases h
 |aP=>cases h
 |cB=>cases h
 |fn=>cases h
 |c3=>cases h
theorem MR(q: ∀k e,H k=some e->cF β w X k e)(r: ∀b,X1 b->X b): ∀{a:List V} {eD:List T} {m:List dd},(∀k,k∈a.flatMap tw-> ∀b,At β k b-> ¬X1 b)->A9 H a=some (eD,m)->ch m->
  eD.length=a.length/\ ∀(U:Nat->Option Value),(∀(i:Nat) c u,a[i]? =some c->U i=some u->bn β w X c u)-> ∀(i:Nat) x u,eD[i]? =some x->U i=some u->cW w X1 x u
 | [],_,_,_,h,_=>by cases h;exact⟨rfl,λ_ _ i x u B=>by simp at B⟩
 |v::a,eD,m,z,h,n=>by
  simp only[A9] at h;split at h
  ·rename_i x D f F G I;cases h;obtain⟨L,Q⟩:=ch.app n;obtain⟨R,W⟩:=MR q r (λk o=>z k (by rw[List.flatMap_cons];exact pG _ o)) I Q;refine⟨by simp[R],λU A i y u p l=>?_⟩;cases i with
   |zero=>
    simp at p;subst p;exact Nt q r (λk o=>z k (by rw[List.flatMap_cons];exact mH _ o)) G L (A 0 v u rfl l)
   |succ i=>
    exact W (λj=>U (j+1)) (λj c u Y l=>A (j+1) c u (by simpa using Y) l) i y u (by simpa using p) l
  cases h
mutual
theorem Zo(G: ∀k e,H k=some e->cF β w X k e)(B: ∀b,X1 b->X b): ∀(v:V) {r:V} {y:List dd} {u:Value},(∀k,k∈pT H v-> ∀b,At β k b-> ¬X1 b)->
  mV H v=some (r,y)->ch y->bn β w X v u->bn gQ w X1 r u
 | .bc k gen W l len,r,y,u,q,h,a,o=>by
  simp only[mV] at h;split at h
  ·rename_i x z A;cases h;exact .t _ _ (Nt G B (λj L=>q j (by simpa[pT,tw] using L)) A a o)
  cases h
 | .t x,r,y,u,q,h,a,o=>by
  simp only[mV] at h;cases h;cases o with|t _ _ h=>exact .t _ _ (h.mono (Ext.refl _ _) λb _=>B b).xY
 | .aP cs,r,y,u,q,h,a,o=>by
  simp only[mV] at h;cases h;exact o.under (u:=gl) B (λ_ h=>by simp[gl] at h) rfl
 | .ref id l,r,y,u,q,h,a,o=>by
  simp only[mV] at h;split at h
  ·rename_i cs m;split at h
   ·rename_i eD z A;cases h;obtain⟨b,Y,rfl⟩:=rh o;obtain⟨ga,n,ty,M,N,kQ,xd⟩:=G id _ m;rw[Y] at M;cases M;obtain⟨Q,D⟩:=MR G B (λk F=>q k (by simp only[pT,m];exact ev _ F)) A a;have R:b<w.heap.size:=by
     have:=(jc.1 N).1;exact this
    refine .aP (eD.drop l) b l (λj=>n.getD (l+j) undef) R (q id (by simp[pT]) b (.inl ⟨_,Y⟩)) (λj L=>?_) λj x U=>?_
    ·rw[e6] at L
     have:l+j<n.size:=O
     simp[World.cell?,N,this]
    rw[fP] at U;have L:=(bR.1 U).1
    have:l+j<n.size:=O
    have e:n.getD (l+j) undef=n[l+j]:=by simp[this]
    rw[e];exact D (λi=>n[i]?) (λi c u m p=>xd i c u m p) (l+j) x _ U (by simp[this])
   cases h
  cases h
 | .agg cs,r,y,u,q,h,a,o=>by
  simp only[mV] at h;split at h
  ·rename_i P z A;cases h;cases o with|agg _ n T I=>
   obtain⟨Q,D⟩:=wC G B cs (λk F=>q k (by simpa[pT] using F)) A a;exact .agg _ n O λi c u m p=>D (λi=>n[i]?) (λi c u m p=>I i c u m p) i c u m p
  cases h
 | .bL cs,r,y,u,q,h,a,o=>by
  simp only[mV] at h;split at h
  ·rename_i P z A;cases h;cases o with|bL _ n T I=>
   obtain⟨Q,D⟩:=wC G B cs (λk F=>q k (by simpa[pT] using F)) A a;exact .bL _ n O λi c u m p=>D (λi=>n[i]?) (λi c u m p=>I i c u m p) i c u m p
  cases h
 | .fn f cs,r,y,u,q,h,a,o=>by
  simp only[mV] at h;split at h
  ·rename_i P z A;cases h;cases o with|fn _ _ n T I=>
   obtain⟨Q,D⟩:=wC G B cs (λk F=>q k (by simpa[pT] using F)) A a;exact .fn _ _ n O λi c u m p=>D (λi=>n[i]?) (λi c u m p=>I i c u m p) i c u m p
  cases h
 | .cB _ _ _ _ _,_,_,_,_,h,_,_=>by simp only[mV] at h;cases h
 | .c3,_,_,_,_,h,_,_=>by simp only[mV] at h;cases h
theorem wC(r: ∀k e,H k=some e->cF β w X k e)(z: ∀b,X1 b->X b): ∀(l:List V) {a:List V} {n:List dd},(∀k,k∈oK H l-> ∀b,At β k b-> ¬X1 b)->
  oQ H l=some (a,n)->ch n->a.length=l.length/\ ∀(U:Nat->Option Value),(∀(i:Nat) c u,l[i]? =some c->U i=some u->bn β w X c u)-> ∀(i:Nat) x u,a[i]? =some x->U i=some u->bn gQ w X1 x u
 | [],_,_,_,h,_=>by simp only[oQ] at h;cases h;exact⟨rfl,λ_ _ i x u D=>by simp at D⟩
 |v::l,a,n,A,h,o=>by
  simp only[oQ] at h;split at h
  ·rename_i x F t G I L;cases h;obtain⟨Q,R⟩:=ch.app o;obtain⟨W,Y⟩:=wC r z l (λk p=>A k (by simp only[oK];exact pG _ p)) L R;refine⟨by simp[W],λU B i y u q m=>?_⟩;cases i with
   |zero=>
    simp at q;subst q;exact Zo r z v (λk p=>A k (by simp only[oK];exact mH _ p)) I Q (B 0 v u rfl m)
   |succ i=>
    exact Y (λj=>U (j+1)) (λj c u f m=>B (j+1) c u (by simpa using f) m) i y u (by simpa using q) m
  cases h
end
theorem aag(r: ∀k e,H k=some e->cF β w X k e)(x: ∀b,X1 b->X b): ∀{l a:List V} {m:List dd} {us:List Value},(∀k,k∈oK H l-> ∀b,At β k b-> ¬X1 b)->
  oQ H l=some (a,m)->ch m->dt β w X l us->dt gQ w X1 a us:=fun {l a m us} y h n q=>by obtain⟨z,A⟩:=wC r x l y h n;exact EC (by rw[z];exact q.fl.1) λi c u o p=>A (λi=>us[i]?) (λi c u o p=>q.fl.2 i c u o p) i c u o p
end
theorem Ya{C:dK}(xm:C.P=K.P)(jV:C.G=K.G){c:Operand}{x:Array TypeId}{l:List V}{H:Nat->Option E}{F:List ct}{N:List dd}(cv:jS K.nt d=true)(hH: ∀k e,H k=some e->s.H k=some e)
  (I:l=s.get c::i.toList.map s.get) (h:Gz C d H l M=some (e,N,F)) (L:ch N):dS K ⟨d,.call {callee:= .value c,args:=i,argTypes:=x},ty,pos,af,g⟩ s (e.app s):=by
 unfold Gz at h;split at h
 ·rename_i f m args;split at h
  ·rename_i r M;split at h
   ·rename_i ys agN n R;cases h;rw[ov];obtain⟨x5,⟨y,o⟩,_⟩:=ch.app L;rw[xm] at y o;rw[jV] at o;simp only[List.cons.injEq] at I;obtain⟨T,h1,h2,h3⟩:=y;intro β a w next Q q U
    have W:T.name≠ "runtime.NumGoroutine" :=by simpa using h2
    have Y:T.body≠none:=by intro e;simp[e] at h3
    obtain⟨us,j,t⟩:=(I.1.symm▸q.get c).G7;have z:(execOp a.eval ⟨d,.call {callee:= .value c,args:=i,argTypes:=x},ty,pos,af,g⟩).run K.P w= .ok (.enter f (i.map a.eval++us)) w:=by
     simp[execOp,resolve,Deferred.ofValue,j,invoke,callFunc,h1,W,Y]
    unfold Oper.wp;rw[z,Oper.upon_enter];have A:dt β w (own K β s.H) (args++m) (i.toList.map a.eval++us.toList):=by rw[I.2];exact(q.nY i.toList).app t
    let X1:Nat->Prop:=λb=>own K β s.H b/\ ∀k,k∈oK H (args++m)-> ¬At β k b;have p:=aag (X1:=X1) (λk e v=>(q.heap k e (hH k e v)).2) (λb n=>n.1) (λk U b n hx=>hx.2 k U n) n x5 A;have B:=o w X1 _ q.Bw (λb n=>q.Ip b n.1) p;have v:(List.map a.eval i.toList++us.toList).toArray=i.map a.eval++us:=by rw[<-vw,<-Array.toList_append]
    rw[v] at B;refine B.mono ?_;rintro e w' ⟨u,rfl,D,hu⟩;exact U β _ w' ((q.grow D).put d (gO cv) (Mu R hu))
   cases h
  cases h
 cases h
theorem ZF{C:dK}(t:C.P=K.P)(M:C.G=K.G){c:Operand}{F:Array Operand}{x:Array TypeId}{m:List V}{H:Nat->Option E}{W:List dd}(N:jS K.nt d=true)
  (T: ∀k e,H k=some e->s.H k=some e) (hu: ∀k,u k=false->s.u k=false)
  (z:m=s.get c::F.toList.map s.get) (h:GS C d m H u U=some (e,W,I)) (Q:ch W):dS K ⟨d,.call {callee:= .value c,args:=F,argTypes:=x},ty,pos,af,g⟩ s (e.app s):=by
 unfold GS at h;split at h
 ·rename_i f A args;split at h
  ·rename_i L a r out U;split at h
   ·rename_i R gE fM aH n;cases h;simp only[List.cons.injEq] at z;simp only[Bool.and_eq_true] at n;obtain⟨⟨p,B⟩,i⟩:=n;have i:=cK i;obtain⟨⟨Y,q⟩,_⟩:=Q;rw[t] at Y q;rw[M] at q;obtain⟨aJ,a2⟩:=wH _ _ fM;obtain⟨i1,i2⟩:=zR _ _ aH;have hx:=W4 (K:=K) (s:=s) (o:=⟨d,.call {callee:= .value c,args:=F,argTypes:=x},ty,pos,af,g⟩) c L a A rfl z.1.symm Y (gO N) (by rw[<-z.2,aJ];exact lP _) a2 i1
     (λk e l=>by
      obtain⟨id,h1,h2,h4⟩:=i2 k e l;exact⟨id,h1,T _ _ h2,h4⟩)
     (zn p) (λid hid=>hu _ (Kf B id hid)) (λ_=>i) q
    have hj:=hx.j;have l:cP.app ⟨e9 d (r.dq (L++a)),(L++a).zip (out.map λe=>some (e.dq (L++a))),(L++a).map λk=>(k,true)⟩ s=(s.after (L++a) out).put d (r.dq (L++a)):=by
     have e1:de s.H ((L++a).zip (out.map λe=>some (e.dq (L++a))))=k5 s.H (L++a) (λk=>(out[k]?).map (E.dq (L++a))):=by
      have:=Kv (L++a) (zn p) s.H (out.map λe=>some (e.dq (L++a))) (λk=>(out[k]?).map (E.dq (L++a))) (by simpa using i) (λk e l=>by
       rw[et] at l;cases b:out[k]? with
       |none=>rw[b] at l;cases l
       |some y=>rw[b] at l;simp at l;rw[<-l];rfl)
      exact this
     have e2:de s.u ((L++a).map λk=>(k,true))=k5 s.u (L++a) (λ_=>true):=by
      funext id;by_cases D:id∈L++a
      ·obtain⟨k,hk⟩:=j9.1 D;rw[oc (zn p) hk];exact Kx D
      rw[nd D,mj _ _ _ λv z=>D (by obtain⟨y,hy,e⟩:=eK.1 z;cases e;exact hy)]
     unfold cP.app S.after;cases d<;>simp only[e9,de,S.put,e1,e2]
    rw[l];exact hj
   cases h
  cases h
 cases h
theorem VC{C:dK}(r:dT K.P C.cb){H:Nat->Option E}{v:V}(y: ∀k e,H k=some e->s.H k=some e)
  (z:s.get x=v) (h:FO C t H v l=some (e,m,c)) (a:ch m):dS K ⟨none,.call {callee:= .builtin .clear,args:= #[x],argTypes:= #[t]},ty,pos,af,g⟩ s (e.app s):=by
 unfold FO at h;split at h
 ·cases h
 rename_i i A;split at h
 ·rename_i n o;have B:K.P.underlying t=some (.slice n):=(r _ _ A).ic.2.2.2 n o;split at h
  ·cases h
  rename_i j D;obtain⟨Q,F,_⟩:=r _ _ D;split at h
  ·rename_i p;split at h
   ·rename_i G I;cases h;obtain⟨rfl,rfl,q,⟨L,rfl⟩,_⟩:=a;exact Zy x _ _ _ n _ _ _ z (y _ _ G) B F I p q L
   cases h
  cases h
 cases h
theorem WN{C:dK}(D:dT K.P C.cb){F:TypeId}{H:Nat->Option E}{v w:V}{G:List ct}{I:List dd}(Q: ∀k e,H k=some e->s.H k=some e)(U:jS K.nt d=true)
  (W:s.get x=v) (Y:s.get y=w) (h:Gh C d t H v w G=some (e,I,n)) (o:ch I):dS K ⟨d,.call {callee:= .builtin .copy,args:= #[x,y],argTypes:= #[t,F]},ty,pos,af,g⟩ s (e.app s):=by
 unfold Gh at h;split at h
 ·cases h
 rename_i i b;split at h
 ·rename_i p q;have f:K.P.underlying t=some (.slice p):=(D _ _ b).ic.2.2.2 p q;split at h
  ·cases h
  rename_i j r;obtain⟨qC,u,_⟩:=D _ _ r;split at h
  ·rename_i k gen L z A a R m G M;split at h
   ·rename_i N c B l T hp;cases h;obtain⟨rfl,rfl,rfl,rfl,b7,⟨cD,rfl⟩,_⟩:=o;have r:=aaX (K:=K) (s:=s) (d:=d) (ty:=ty) (pos:=pos) (af:=af) (g:=g) (gen:=c) (size:=j.size) x y k z A p N F l a (gO U) W (by rw[Y,<-M];exact tv w) (Q _ _ T) f u (by simpa[Nat.blt_eq] using hp) b7 cD
    have: ∀v e,cP.app ⟨e9 d v,[(k,some e)],[]⟩ s=({s with H:=aU s.H k (some e)}:S).put d v:=by intro v e;cases d<;>rfl
    rw[this];exact r
   cases h
  cases h
 cases h
theorem aax{C:dK}(z:dT K.P C.cb)(Y:C.P=K.P)(M:C.G=K.G)(cG:C.nt=K.nt)(N:C.c'=K.c'){m:List V}{H:Nat->Option E}{b Q:List ct}{R:List dd}
  (a:m=o.op.operands.toList.map s.get) (D: ∀k e,H k=some e->s.H k=some e) (L: ∀k,u k=false->s.u k=false) (h:G5 C o m H u b=some (e,R,Q)) (l:ch R):dS K o s (e.app s):=by
 obtain⟨d,U,ty,pos,af,g⟩:=o;unfold G5 at h;dsimp only at h;split at h
 ·cases h
 rename_i q;rw[cG] at q;have F: ∀{U:Op} {r:iP},m=U.operands.toList.map s.get->(match xg C.P C.cb H U m b with|some (v,R,b)=>some ((⟨e9 d v,[],[]⟩:cP),R,b)|none=>none)=some (e,R,Q)->dS K ⟨d,U,ty,pos,af,g⟩ s (e.app s):=by
  intro U r a h;split at h
  ·rename_i v agM agl n;cases h;rw[ov];rw[Y] at n;exact Uo (vals:=m) (gO q) (fo.of_eq a.symm) ((aaw z n l).sub D)
  cases h
 split at h
 ·split at h
  ·simp only[Op.operands,List.map_cons,List.map_nil,List.cons.injEq,and_true] at a;split at h
   ·exact WS q a.symm h
   exact Yq L q a.symm h
  cases h
 ·split at h
  ·rename_i i aH;exact VE z aH L q h
  cases h
 ·split at h
  ·simp only[Op.operands,List.map_cons,List.map_nil,List.cons.injEq,and_true] at a;split at h
   ·rename_i n;cases h;exact Vx z rfl D a.1.symm a.2.symm n l
   exact UF z D a.1.symm a.2.symm h l
  cases h
 ·split at h
  ·simp only[Op.operands,List.map_cons,List.map_nil,List.cons.injEq,and_true] at a;exact WL z L q a.1.symm a.2.symm h l
  cases h
 ·split at h
  ·rename_i n;cases h;exact Yj z L q (by simpa[Op.operands] using a) n l
  exact WM z L q (by simpa[Op.operands] using a) h
 ·rename_i c;obtain⟨j,args,I⟩:=c;dsimp only at h;split at h
  ·rename_i f;split at h
   ·exact ZF Y M q D L (by simpa[Op.operands,Call.operands] using a) h l
   split at h
   ·exact Ya Y M q D (by simpa[Op.operands,Call.operands] using a) h l
   exact WR Y M q (by simpa[Op.operands,Call.operands] using a) h l
  ·split at h
   ·rename_i x y t T v w W A;have B:args= #[x,y]:=by rw[<-W]
    have p:I= #[t,T]:=by rw[<-A]
    subst B;subst p;simp only[Op.operands,Call.operands] at a;simp at a;split at h
    ·rename_i n;cases h;exact UH z N D q a.1.symm a.2.symm n l
    exact TT z D q a.1.symm a.2.symm h l
   cases h
  ·split at h
   ·rename_i x t v W A;have B:args= #[x]:=by rw[<-W]
    have p:I= #[t]:=by rw[<-A]
    subst B;subst p;simp only[Op.operands,Call.operands] at a;simp at a;exact VC z D a.symm h l
   cases h
  ·split at h
   ·rename_i x y t T v w W A;have B:args= #[x,y]:=by rw[<-W]
    have p:I= #[t,T]:=by rw[<-A]
    subst B;subst p;simp only[Op.operands,Call.operands] at a;simp at a;exact WN z D q a.1.symm a.2.symm h l
   cases h
  ·exact F (r:=none) a h
  cases h
 exact F (r:=none) a h
def ad':V->List Nat
 | .ref id _=>[id]
 | .bc id _ _ _ _=>[id]
 | .cB id _ _ _ _=>[id]
 |_=>[]
def GR:List V->List Nat
 | []=>[]
 |v::a=>ad' v++GR a
def PV:List ct->List Nat
 | .nat k::a=>k::PV a
 |_=>[]
def ad9:List ct->List Nat
 | .b true::c=>PV c
 | .nat k::_=>[k]
 | .int _:: .nat k::_=>[k]
 | .dG L a _ _::_=>L++a
 | .lt k _ _::_=>[k]
 |_=>[]
def hn(k:Nat):List Nat->Bool
 | []=>false
 |x::l=>bif Nat.beq x k then true else hn k l
theorem zM{k:Nat}: ∀{l:List Nat},hn k l=true->k∈l
 | [],h=>by cases h
 |x::l,h=>by
  simp only[hn] at h;cases a:Nat.beq x k with
  |true=>rw[cK a];exact eR
  |false=>rw[a] at h;exact ev _ (zM h)
def tS(a:List Nat)(H:Nat->Option E):Nat->Option E:=λk=>bif hn k a then H k else none
def tR(a:List Nat)(u:Nat->Bool):Nat->Bool:=λk=>bif hn k a then u k else true
theorem VN{H:Nat->Option E}{e:E}(h:tS r H k=some e):H k=some e:=by
 unfold tS at h;cases a:hn k r with
 |true=>rw[a] at h;exact h
 |false=>rw[a] at h;cases h
theorem UI(h:tR r u k=false):u k=false:=by
 unfold tR at h;cases a:hn k r with
 |true=>rw[a] at h;exact h
 |false=>rw[a] at h;cases h
def aa':Op->List V->Bool
 | .nilCheck _,[.cB _ _ _ _ _]=>false
 | .move _,_| .assign _,_| .pick _ _ _,_| .nilCheck _,_| .binOp _ _ _ _ _,_| .unOp _ _ _,_| .convert _ _ _,_| .makeFunc _ _ _,_| .extract _ _,_| .field _ _ _,_| .build _ _,_=>true
 | .fieldAddr _ _ _,[.ref _ _]=>true
 |_,_=>false
def aa8:Op->Bool
 | .load _ _| .slice _ _ _ _ _| .fieldAddr _ _ _| .indexAddr _ _ _| .index _ _ _| .nilCheck _=>true
 | .call c=>match c.callee with
  | .builtin .len=>true
  | .builtin .max=>true
  | .builtin .min=>true
  |_=>false
 |_=>false
def uG(o:Oper)(a:List V)(c:List ct):List Nat:=match aa' o.op a with
 |true=>[]
 |false=>match aa8 o.op with
  |true=>GR a
  |false=>GR a++ad9 c
def qa(C:dK)(o:Oper)(a:List V)(s:S)(c:List ct):iP:=G5 C o a (tS (uG o a c) s.H) (tR (uG o a c) s.u) c
def H8:Bool->Bool->Bool
 |true,true=>true
 |false,false=>true
 |_,_=>false
def uk(a:Array Oper)(j:Nat)(s:S):Option V:=match (a[j]?).bind (·.dst) with
 |some t=>some (s.t t)
 |none=>none
def rW(C:dK)(h:Array Oper)(o:Oper)(a:List ct)(s:S):iP:=
 match o.guard with
 |none=>qa C o (o.op.operands.toList.map s.get) s a
 |some (j,c)=>match uk h j s with
  |some (.bL [])=>match jS C.nt o.dst with
   |true=>some (⟨e9 o.dst (.bL []),[],[]⟩,[],a)
   |false=>none
  |some (.t (.bool b))=>match a with
   | .b w::a=>match H8 w c with
    |true=>match qa C o (o.op.operands.toList.map s.get) s a with
     |some (e,i,a)=>some (e,.p (b=w)::i,a)
     |none=>none
    |false=>match jS C.nt o.dst with
     |true=>some (⟨e9 o.dst (.bL []),[],[]⟩,[.p (b=w)],a)
     |false=>none
   |_=>none
  |_=>none
end
structure dK.Fits (C:dK) (K:Ctx):Prop where
 T:dT K.P C.cb
 P:C.P=K.P
 G:C.G=K.G
 nt:C.nt=K.nt
 c':C.c'=K.c'
 gK:C.gK=K.gK
section
variable {K:Ctx} {s:S} {C:dK}
theorem N2(a:C.Fits K)(h:qa C o (o.op.operands.toList.map s.get) s l=some (e,m,c))(i:ch m):dS K o s (e.app s):=
 aax a.T a.P a.G a.nt a.c' rfl (λ_ _ h=>VN h) (λ_ h=>UI h) h i
theorem Yx{w v:Bool}(h:H8 w v=true):w=v:=by cases w<;>cases v<;>first|rfl|cases h
theorem Xj{w v:Bool}(h:H8 w v=false):w= !v:=by cases w<;>cases v<;>first|rfl|cases h
theorem NQ{a:Array Oper}{j:Nat}{v:V}(h:uk a j s=some v): ∃t,(a[j]?).bind (·.dst)=some t/\s.t t=v:=by
 unfold uk at h;split at h
 ·rename_i t c;exact⟨t,c,by cases h;rfl⟩
 cases h
theorem N6(p:C.Fits K){V:Array Oper}(h:rW C V o l s=some (e,m,c))(a:ch m):hS K V o s (e.app s):=by
 unfold rW at h;split at h
 ·rename_i k;exact hS.of k (N2 p h a)
 rename_i j z k;split at h
 ·rename_i i;obtain⟨t,q,r⟩:=NQ i;split at h
  ·rename_i x;cases h;rw[ov];exact hS.skip k q r (gO (p.nt▸x))
  cases h
 ·rename_i b i;obtain⟨t,q,r⟩:=NQ i;split at h
  ·rename_i w l;split at h
   ·rename_i hw;have hw:=Yx hw;subst hw;split at h
    ·rename_i D A B y;cases h;obtain⟨rfl,n⟩:=a;exact hS.gE k q r (N2 p y n)
    cases h
   rename_i hw;have hw:=Xj hw;subst hw;split at h
   ·rename_i x;cases h;obtain⟨rfl,_⟩:=a;rw[ov];exact hS.out k q r (gO (p.nt▸x))
   cases h
  cases h
 cases h
theorem aaf{V:Array Oper}{l:List Oper}{Q:S->Prop}(h:hS K V o s b)(k:p1 K V l b Q):p1 K V (o::l) s Q:=
 λβ a w c m n=>h β a w (wpList K.P V c l) c m λe p q i=>k e p q c i n
end
end Go.Lift
