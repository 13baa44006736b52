/- Tools. -/
import Derived.Test.YtfegpkfpnpjgeaaGreatBLiftTV
namespace Go.Lift
open Go
section
variable {P:Program}{b9:List (Nat×cf)}{H:Nat->Option E}{d:Option Tmp}{ty:TypeId}{pos:String}{af:Array Edge}{g:Option (Nat×Bool)}
variable {t:TypeId}{u:TypeDesc}{z:Value}{size bytes:Nat}
theorem Bn(a:BinOp)(e:OV a=true)(x y:Operand)(t h:TypeId)(k:IntKind)(m n:Int):b4 P H ⟨d,.binOp a t x y h,ty,pos,af,g⟩ [.t (.int k m),.t (.int k n)] (.t (.int k (bits a k m n))):=by
 intro i w X l _ c;refine⟨Value.int k (bits a k m n),?_,.t _ _ (.int k _)⟩;cases a<;>simp[OV] at e<;>
  simp[execOp,dy c.1,dy c.2.1,eqGuard,binOp,intBits_and,intBits_or,intBits_xor,intBits_andNot]
theorem abv(x y:Operand)(t c:TypeId)(m n:List UInt8):b4 P H ⟨d,.binOp .lss t x y c,ty,pos,af,g⟩ [.t (.str m),.t (.str n)] (.t (.bool (Op.bytesLess m n))):=by intro e w X h _ a;refine⟨.bool (Op.bytesLess m n),?_,.t _ _ (.bool _)⟩;simp[execOp,hb a.1,hb a.2.1,eqGuard,binOp,Op.stringOp]
theorem abx(x y:Operand)(t c:TypeId)(m n:List UInt8):b4 P H ⟨d,.binOp .gtr t x y c,ty,pos,af,g⟩ [.t (.str m),.t (.str n)] (.t (.bool (!Op.bytesLess m n&& !m==n))):=by intro e w X h _ a;refine⟨.bool (!Op.bytesLess m n&& !m==n),?_,.t _ _ (.bool _)⟩;simp[execOp,hb a.1,hb a.2.1,eqGuard,binOp,Op.stringOp]
theorem abw(x y:Operand)(t c:TypeId)(m n:List UInt8):b4 P H ⟨d,.binOp .leq t x y c,ty,pos,af,g⟩ [.t (.str m),.t (.str n)] (.t (.bool (Op.bytesLess m n||m==n))):=by intro e w X h _ a;refine⟨.bool (Op.bytesLess m n||m==n),?_,.t _ _ (.bool _)⟩;simp[execOp,hb a.1,hb a.2.1,eqGuard,binOp,Op.stringOp]
theorem acM(x:Operand)(t:TypeId)(k:IntKind)(n:Int):b4 P H ⟨d,.unOp .neg t x,ty,pos,af,g⟩ [.t (.int k n)] (.t (.int k (k.wrap (0-n)))):=by intro c w X e _ a;refine⟨.int k (k.wrap (0-n)),?_,.t _ _ (.int _ _)⟩;simp[execOp,dy a.1,Op.unary,Op.intArith]
theorem Vx(x:Operand)(f:FuncId)(a:List V):b4 P H ⟨d,.nilCheck x,ty,pos,af,g⟩ [.fn f a] (.fn f a):=by intro h w X c _ i;have e:bk h w X (.fn f a) (c x):=i.1;refine⟨c x,?_,e⟩;generalize k:c x=y at e;cases e with|fn=>simp[execOp,k]
variable {a v b:V}{x y:Operand}{i k:TypeId}{m e r:List dc}{n l c p q:List cq}{G:Map}{w:World}{X:Nat->Prop}
theorem ZE{a:BinOp}{t:TypeId}{k:IntKind}{m n:Int}(h:Hd a k m n l=some (v,e,c))(o:cc e):
  b4 P H ⟨d,.binOp a t x y i,ty,pos,af,g⟩ [.t (.int k m),.t (.int k n)] v:=by
 cases a<;>simp only[Hd,Pe,Option.some.injEq,Prod.mk.injEq,reduceCtorEq] at h<;>obtain⟨rfl,rfl,rfl⟩:=h
 ·exact acW _ _ _ _ _ _ _
 ·exact acH _ _ _ _ _ _ _
 ·exact acN _ _ _ _ _ _ _
 ·exact acJ _ _ _ _ _ _ _ o.1
 ·exact acI _ _ _ _ _ _ _ o.1
 ·exact Bn .and rfl _ _ _ _ _ _ _
 ·exact Bn .or rfl _ _ _ _ _ _ _
 ·exact Bn .xor rfl _ _ _ _ _ _ _
 ·exact Bn .andNot rfl _ _ _ _ _ _ _
 ·exact acU _ _ _ _ _ _ _
 ·exact acL _ _ _ _ _ _ _
 ·exact acQ _ _ _ _ _ _ _
 ·exact acR _ _ _ _ _ _ _
 ·exact acS _ _ _ _ _ _ _
 exact acT _ _ _ _ _ _ _
theorem ZZ{a:BinOp}{t:TypeId}{m n:List UInt8}(h:Hn a m n l=some (v,e,c))(k:cc e):
  b4 P H ⟨d,.binOp a t x y i,ty,pos,af,g⟩ [.t (.str m),.t (.str n)] v:=by
 unfold Hn at h;split at h<;>cases h
 ·obtain⟨o,rfl⟩:=Zz k.1;exact acV _ _ _ _ _ _ o
 ·exact abz _ _ _ _ _ _
 ·exact abu _ _ _ _ _ _
 ·exact aby _ _ _ _ _ _
 ·exact abv _ _ _ _ _ _
 ·exact abx _ _ _ _ _ _
 exact abw _ _ _ _ _ _
theorem L9(a:dP P b9)(h:GU (dr b9 t)=true):P.underlying t=some .bool:=by
 unfold GU at h;split at h
 ·rename_i i c;split at h
  ·rename_i e;exact(a _ _ c).iw.1 e
  cases h
 cases h
theorem Fo(a:dP P b9)(h:xa (dr b9 t)=true):P.underlying t=some .string:=by
 unfold xa at h;split at h
 ·rename_i i c;split at h
  ·rename_i e;exact(a _ _ c).iw.2.2.1 e
  cases h
 cases h
theorem AJ(a:dP P b9)(h:xp (dr b9 t)=true): ∃e,P.underlying t=some (.slice e):=by
 unfold xp at h;split at h
 ·rename_i i c;split at h
  ·rename_i e k;exact⟨e,(a _ _ c).iw.2.2.2 e k⟩
  cases h
 cases h
theorem wh{u:Value}(h:bk G w X (.t .gw) u):u= .nilIface:=by cases h with|t _ _ h=>cases h with|gw=>rfl
theorem NK{u:Value}(h:bk G w X (.t .err) u): ∃t v,u= .iface t v:=by cases h with|t _ _ h=>cases h with|err t v=>exact⟨t,v,rfl⟩
theorem S8(w:World)(n:Nat){ms}(a:TypeId)(b:Value)(c:P.underlying t=some (.interface ms)):(Op.equalIn (n+1) t (.iface a b) .nilIface).run P w= .ok false w:=by simp[Op.equalIn,run_underlying c]
theorem SE(w:World)(n:Nat){ms}(a:P.underlying t=some (.interface ms)):(Op.equalIn (n+1) t .nilIface .nilIface).run P w= .ok true w:=by simp[Op.equalIn,run_underlying a]
theorem ME(w:World){ms}(a:TypeId)(b:Value)(c:P.underlying t=some (.interface ms)):(Op.equal t (.iface a b) .nilIface).run P w= .ok false w:=S8 w 9999 a b c
theorem LC(w:World){ms}(a:P.underlying t=some (.interface ms)):(Op.equal t .nilIface .nilIface).run P w= .ok true w:=SE w 9999 a
theorem Xw(a b):binOp .eql t (.iface a b) .nilIface=(do pure (.bool (<-Op.equal t (.iface a b) .nilIface))):=rfl
theorem Xv(a b):binOp .neq t (.iface a b) .nilIface=(do pure (.bool (!(<-Op.equal t (.iface a b) .nilIface)))):=rfl
theorem Xu:binOp .eql t .nilIface .nilIface=(do pure (.bool (<-Op.equal t .nilIface .nilIface))):=rfl
theorem Xt:binOp .neq t .nilIface .nilIface=(do pure (.bool (!(<-Op.equal t .nilIface .nilIface)))):=rfl
theorem MF(w:World)(o:BinOp)(x y:Operand)(a:(py x||py y)=true):(eqGuard o t x y .nilIface .nilIface).run P w= .ok () w:=by cases x<;>cases y<;>simp[py] at a<;>simp[eqGuard]<;>split<;>simp
theorem abn(x y:Operand)(e:TypeId){ms}(h:P.underlying t=some (.interface ms)):b4 P H ⟨d,.binOp .eql t x y e,ty,pos,af,g⟩ [.t .err,.t .gw] (.t (.bool false)):=by intro k w X l _ c;obtain⟨a,b,i⟩:=NK c.1;refine⟨.bool false,?_,.t _ _ (.bool _)⟩;simp[execOp,i,wh c.2.1,eqGuard,Xw,ME w a b h]
theorem abm(x y:Operand)(e:TypeId){ms}(h:P.underlying t=some (.interface ms)):b4 P H ⟨d,.binOp .neq t x y e,ty,pos,af,g⟩ [.t .err,.t .gw] (.t (.bool true)):=by intro k w X l _ c;obtain⟨a,b,i⟩:=NK c.1;refine⟨.bool true,?_,.t _ _ (.bool _)⟩;simp[execOp,i,wh c.2.1,eqGuard,Xv,ME w a b h]
theorem abB(x y:Operand)(c:TypeId){ms}(e:P.underlying t=some (.interface ms))(h:(py x||py y)=true):b4 P H ⟨d,.binOp .eql t x y c,ty,pos,af,g⟩ [.t .gw,.t .gw] (.t (.bool true)):=by intro i w X k _ a;refine⟨.bool true,?_,.t _ _ (.bool _)⟩;simp[execOp,wh a.1,wh a.2.1,MF w _ x y h,Xu,LC w e]
theorem abA(x y:Operand)(c:TypeId){ms}(e:P.underlying t=some (.interface ms))(h:(py x||py y)=true):b4 P H ⟨d,.binOp .neq t x y c,ty,pos,af,g⟩ [.t .gw,.t .gw] (.t (.bool false)):=by intro i w X k _ a;refine⟨.bool false,?_,.t _ _ (.bool _)⟩;simp[execOp,wh a.1,wh a.2.1,MF w _ x y h,Xt,LC w e]
theorem Aj{a:List (Nat×cf)}(e:dP P a)(h:Hj (dr a t)=true): ∃ms,P.underlying t=some (.interface ms):=by
 unfold Hj at h;split at h
 ·rename_i i k;split at h
  ·rename_i l;obtain⟨u,n,c⟩:=e _ _ k;simp only[cf.is,l] at c;obtain⟨m,rfl⟩:=c;exact⟨m,n.1⟩
  cases h
 cases h
theorem ZF{e:List (Nat×cf)}(q:dP P e){i:BinOp}(h:He e i t x y a b l=some (v,m,c)):
  b4 P H ⟨d,.binOp i t x y k,ty,pos,af,g⟩ [a,b] v:=by
 unfold He at h;split at h
 ·rename_i n p;obtain⟨ms,o⟩:=Aj q n;cases h;exact abn _ _ _ o
 ·rename_i n p;obtain⟨ms,o⟩:=Aj q n;cases h;exact abm _ _ _ o
 ·rename_i n p;obtain⟨ms,o⟩:=Aj q n;cases h;exact abB _ _ _ o p
 ·rename_i n p;obtain⟨ms,o⟩:=Aj q n;cases h;exact abA _ _ _ o p
 cases h
theorem Tn(w:World)(n:Nat){e}(a:Addr)(l c:Nat)(h:P.underlying t=some (.slice e)):(Op.equalIn (n+1) t (.slice (some a) l c) (.slice none 0 0)).run P w= .ok false w:=by simp[Op.equalIn,run_underlying h]
theorem ZN(w:World){e}(a:Addr)(l c:Nat)(h:P.underlying t=some (.slice e)):(Op.equal t (.slice (some a) l c) (.slice none 0 0)).run P w= .ok false w:=Tn w 9999 a l c h
theorem aat(a:Addr)(l c:Nat):binOp .eql t (.slice (some a) l c) (.slice none 0 0)=(do pure (.bool (<-Op.equal t (.slice (some a) l c) (.slice none 0 0)))):=rfl
theorem aad(x y:Operand)(n:TypeId)(i:List (List T)){e}(o:P.underlying t=some (.slice e))(p:i≠[]):b4 P H ⟨d,.binOp .eql t x y n,ty,pos,af,g⟩ [.t (.aA i),.t .fe] (.t (.bool false)):=by
 intro C w X k _ m;obtain⟨a,l,c,q⟩: ∃a l c,k x= .slice (some a) l c:=by
  cases m.1 with|t _ _ h=>
  generalize r:k x=u at h;cases h with
  |fI=>exact bz rfl p
  |aA _ b s size A f=>exact⟨_,_,_,rfl⟩
 have B:k y= .slice none 0 0:=by
  cases m.2.1 with|t _ _ h=>
  generalize r:k y=u at h;cases h;rfl
 refine⟨.bool false,?_,.t _ _ (.bool _)⟩;simp[execOp,q,B,eqGuard,aat,ZN w a l c o]
theorem Z0{i:List (Nat×cf)}(p:dP P i){k:BinOp}{l:TypeId}(h:Ho i k t a b n=some (v,m,c))(o:cc m):
  b4 P H ⟨d,.binOp k t x y l,ty,pos,af,g⟩ [a,b] v:=by
 unfold Ho at h;split at h
 ·rename_i q;obtain⟨e,r⟩:=AJ p q;cases h;exact aad _ _ _ _ r o.1
 cases h
theorem VA(x y:Operand)(e n c a k:Nat){u:TypeDesc}{z:Value}{i m:Nat}(l:P.underlying t=some (.array n e))(o:ca P e u z i m)(r:k<n):
  b4 P H ⟨d,.indexAddr t x y,ty,pos,af,g⟩ [.ref c a,.t (.int .i64 (k:Int))] (.ref c (a+k*i)):=by
 intro s w X A B h;have cy:=dy h.2.1;obtain⟨b,p,q⟩:=rA h.1;refine⟨.pointer (some ⟨b,a+k*i,none⟩),?_,.ref _ _ _ p⟩;simp[execOp,q,cy,Instr.indexAt,asIntOf,run_underlying l,o.run_sizeOf,jg,Instr.sureAddr]
 grind
theorem ZL(A:dP P b9){i:BinOp}{t:TypeId}(h:Hi P b9 i t a b c=some (v,e,l))(m:cc e):
  b4 P H ⟨d,.binOp i t x y k,ty,pos,af,g⟩ [a,b] v:=by
 unfold Hi at h;split at h
 ·split at h
  ·rename_i B;subst B;exact ZE h m
  cases h
 ·exact ZZ h m
 ·split at h
  ·rename_i n;cases h;exact abp _ _ _ _ _ (L9 A n)
  ·rename_i n;cases h;exact abo _ _ _ _ _ (L9 A n)
  cases h
 ·split at h
  ·rename_i ms o b c p q;cases h;obtain⟨r,s,w,_⟩:=m;rw[zc p,zc q,<-w];exact Yr _ _ _ _ ms o r aP (by simp[s])
  ·rename_i ms o b c p q;cases h;obtain⟨r,s,w,_⟩:=m;rw[zc p,zc q,<-w];exact Yp _ _ _ _ ms o r aP (by simp[s])
  cases h
 cases h
theorem aa0{e:UnOp}(h:Hs e a l=some (v,m,c)):
  b4 P H ⟨d,.unOp e t x,ty,pos,af,g⟩ [a] v:=by
 unfold Hs at h;split at h<;>cases h
 ·exact acK _ _ _
 exact acM _ _ _ _
theorem Vm(k:dP P b9){i:cf}(l:dr b9 t=some i)(h:FF b9 (some i)=true): ∃e,P.underlying t=some (.slice e)/\P.underlying e=some (.int .u8):=by
 unfold FF at h;split at h
 ·rename_i o a;cases a;split at h
  ·rename_i e m;split at h
   ·rename_i j n;split at h
    ·rename_i c;exact⟨e,(k _ _ l).iw.2.2.2 e m,(k _ _ n).iw.2.1 _ c⟩
    cases h
   cases h
  cases h
 cases h
theorem YO(y:dP P b9){c o:TypeId}(h:G0 b9 c o a p=some (v,r,q))(s:cc r):
  b4 P H ⟨d,.convert c o x,ty,pos,af,g⟩ [a] v:=by
 unfold G0 at h;split at h
 ·rename_i i j F G;split at h
  ·rename_i L k n m p A;cases h;obtain⟨K,w,_⟩:=y _ _ F;have B:L.wrap n=m:=s.1;rw[<-B];exact OD _ _ _ _ _ K _ w.1 ((y _ _ G).iw.2.1 _ A)
  ·rename_i k n m p A;cases h;have B:UInt8.ofInt n=m:=s.1;rw[<-B];obtain⟨K,w,_⟩:=y _ _ F
   have:=OD (P:=P) (H:=H) (d:=d) (ty:=ty) (pos:=pos) (af:=af) (g:=g) x c o k .u8 K n w.1 ((y _ _ G).iw.2.1 _ A);rw[Od] at this;exact this
  ·rename_i C l p A;split at h
   ·rename_i Q;cases h;have B:C=l.map nG:=s.1;obtain⟨e,R,W⟩:=Vm y F Q;rw[B];exact VC _ _ _ _ _ R W ((y _ _ G).iw.2.2.1 A)
   cases h
  cases h
 cases h
theorem UP(x:Operand)(r gen i a:Nat)(s:TypeId)(sz:Nat)(k:List (List T))(e:List T)(Q:ca P t u z size bytes)(R:ko u=true)(F:H r=some (.arr s gen sz k))(o:k[i]? =some e)(V:a+size<=e.length):
  b4 P H ⟨d,.load t x,ty,pos,af,g⟩ [.cw r gen sz i a] (.agg (((e.drop a).take size).map .t)):=by
 intro Y w X ρ G W;obtain⟨q,K⟩:=jl (G r _ F);obtain⟨b,y,f⟩:=oG W.1 K;subst y;have aY:=K;rcases(G r _ F).2 with ⟨A,B⟩|⟨fL,C,A,B,h3,D,I⟩
 ·rw[B] at o;simp at o
 rw[aY] at A;cases A;have M:i<k.length:=(bU.1 o).1;have N:e.length=sz:=D e (bE o);have p: ∀j,j<size->i*sz+a+j<C.size:=by
  intro j n
  have:(i+1)*sz<=k.length*sz:=dx _ M;rw[dG] at this;omega
 have l: ∀j,j<size->w.cell? ⟨b,i*sz+a+j,none⟩=some (C.getD (i*sz+a+j) undef):=λj n=>by
  have:=p j n;simp[World.cell?,B,this]
 refine⟨_,by simp[execOp,f,Instr.loadAt,Instr.sureAddr,Q.Da w R l];rfl,?_⟩;refine .agg _ _ bN λj c v h L=>?_;have n:j<size:=by
  have:=(bU.1 h).1;simp at this;omega
 rw[ev,List.getElem?_take_of_lt n,gy] at h;simp only[List.getElem?_toArray,List.getElem?_map,List.getElem?_range n,Option.map_some,Option.some.injEq] at L;cases m:e[a+j]? with
 |none=>rw[m] at h;simp at h
 |some S=>
  rw[m] at h;simp at h;rw[<-h]
  have:=p j n;have U:=I i (a+j) e S C[i*sz+a+j] o m (by rw[<-pV];simp[this]);rw[<-L];simp only[Array.getElem?_eq_getElem this,Option.getD_some];exact .t _ _ U
theorem MD(K:dP P b9)(h:tX b9 H t a l=some (v,e,n))(w:cc e):
  b4 P H ⟨d,.load t x,ty,pos,af,g⟩ [a] v:=by
 unfold tX at h;split at h
 ·cases h
 rename_i i L;obtain⟨Q,q,m⟩:=(K _ _ L).agg;split at h
 ·rename_i id B;split at h
  ·rename_i cs s;split at h
   ·rename_i o;split at h
    ·rename_i p;cases h;exact aae _ _ _ _ q (m.trans o) s p
    cases h
   rename_i o;split at h
   ·rename_i c C;cases h;exact aaf _ _ _ _ _ q (m.trans o) s C
   cases h
  cases h
 ·rename_i cs;split at h
  ·rename_i o;split at h
   ·rename_i p;cases h;exact WE _ _ q (m.trans o) (dY p)
   cases h
  rename_i o;split at h
  ·cases h;exact WG _ _ _ q (m.trans o)
  cases h
 ·rename_i id gen R k B;split at h
  ·rename_i y F A r l s o;split at h
   ·rename_i c C;cases h;obtain⟨rfl,rfl,G,_⟩:=w;exact UQ _ _ _ _ _ _ _ _ _ _ q (m.trans o) s G C
   cases h
  ·rename_i y F A r l s o;split at h
   ·rename_i p;cases h;obtain⟨rfl,rfl,G,_⟩:=w;exact UP _ _ _ _ _ _ _ _ _ q (m.trans o) s G (dY p)
   cases h
  cases h
 cases h
theorem L0{j:Nat}: ∀{c:List (Nat×Nat×V)},r3 j c=none-> ∀i v,(i,j,v)∉c
 | [],_,_,_,h=>by cases h
 |h::c,a,i,v,hm=>by
  simp only[r3] at a;cases e:Nat.beq h.2.1 j with
  |true=>rw[e] at a;cases a
  |false=>
   rw[e] at a;rcases dL.1 hm with rfl|hm
   ·simp at e
   exact L0 a i v hm
theorem ES{j:Nat}{x:Nat×V}: ∀{c:List (Nat×Nat×V)},r3 j c=some x->(x.1,j,x.2)∈c
 |h::c,a=>by
  simp only[r3] at a;cases e:Nat.beq h.2.1 j with
  |true=>
   rw[e] at a;cases a
   have:=cL e;subst this;exact eM
  |false=>rw[e] at a;exact ew _ (ES a)
theorem zg{D:List (Nat×Nat×V)}{k:Nat}: ∀{n j:Nat} {l:List (Nat×V)},rQ D j n=some l->cc (rZ k l)->l.length=n/\ ∀i v,(l.map (·.2))[i]? =some v->(k,j+i,v)∈D
 |0,_,_,h,_=>by cases h;exact⟨rfl,λi v h=>by simp at h⟩
 |n+1,j,l,h,a=>by
  simp only[rQ] at h;split at h
  ·rename_i x p m o;cases h;simp only[rZ] at a;obtain⟨e,a⟩:=a;obtain⟨aI,a2⟩:=zg o a;refine⟨by simp[aI],λi v c=>?_⟩;cases i with
   |zero=>
    simp at c;subst c
    have:=ES m;rw[e] at this;exact this
   |succ i=>
    have:=a2 i v (by simpa using c)
    rwa [show j+1+i=j+(i+1) by omega] at this
  cases h
theorem Xn(X:dP P b9){W b:List cq}{N:List dc}(h:Gr b9 H t a W=some (v,N,b))(o:cc N):
  b4 P H ⟨d,.load t x,ty,pos,af,g⟩ [a] v:=by
 unfold Gr at h;split at h
 ·rename_i i id gen S k L r W Q;obtain⟨T,y,n⟩:=(X _ _ Q).agg;split at h
  ·rename_i A m B e R C;split at h
   ·rename_i w;split at h
    ·rename_i c F G;split at h
     ·rename_i f;cases h;obtain⟨rfl,p,s,_⟩:=o;exact DA _ _ _ _ _ A m _ e R r c _ y (n.trans w) C p s F (.inr ⟨λv=>L0 G _ _,f,rfl⟩)
     cases h
    ·rename_i c U Y F G;cases h;obtain⟨rfl,p,s,rfl,_⟩:=o;exact DA _ _ _ _ _ A m _ e _ r c _ y (n.trans w) C p s F (.inl (ES G))
    cases h
   rename_i w;split at h
   ·rename_i l D G;cases h;obtain⟨rfl,p,s,K⟩:=o;obtain⟨I,M⟩:=zg G K;exact Kx _ _ _ _ _ A m _ e R r _ y (n.trans w) C p s (dY D) (by simp[I]) M
   cases h
  cases h
 ·rename_i i id gen S k L q r W Q;obtain⟨T,y,n⟩:=(X _ _ Q).agg;split at h
  ·rename_i A m B e R C;split at h
   ·rename_i c U cT Y w F K;cases h;obtain⟨rfl,p,s,rfl,rfl,_⟩:=o;exact DA _ _ _ _ _ A m _ e _ r c _ y (n.trans w) C p s F (.inl (bE K))
   ·rename_i w;split at h
    ·rename_i l D G;cases h;obtain⟨rfl,p,s,K⟩:=o;obtain⟨I,M⟩:=zg G K;exact Kx _ _ _ _ _ A m _ e R r _ y (n.trans w) C p s (dY D) (by simp[I]) λj v bL=>e6 (M j v bL)
    cases h
   cases h
  cases h
 ·rename_i i id gen S k L q r W Q;obtain⟨T,y,n⟩:=(X _ _ Q).agg;split at h
  ·rename_i A m B e R C;split at h
   ·rename_i c w F f;cases h;obtain⟨rfl,p,s,K⟩:=o;exact DA _ _ _ _ _ A m _ e _ r c _ y (n.trans w) C p s F (.inr ⟨wU K,f,rfl⟩)
   cases h
  cases h
 cases h
theorem Xp(C:dP P b9){k:Nat}(h:Gt b9 H t k a l=some (v,m,c))(r:cc m):
  b4 P H ⟨d,.fieldAddr t x k,ty,pos,af,g⟩ [a] v:=by
 unfold Gt at h;split at h
 ·cases h
 rename_i i K;split at h
 ·rename_i W L;obtain⟨s,y,A,_⟩:=(C _ _ K).st L;have w:P.underlying t=some (.struct s):=y.1;split at h
  ·cases h
  rename_i F n;rw[<-A,ev] at n;cases q:s[k]? with
  |none=>rw[pW,q] at n;cases n
  |some Q=>
  rw[pW,q] at n;simp only[Option.map_some,Option.some.injEq] at n;subst n;split at h
  ·cases h
  rename_i j R;obtain⟨X,o,_⟩:=C _ _ R;split at h
  ·cases h
  rename_i G;have p:(j.size==0)=false:=by
   rw[beq_eq_false_iff_ne];intro e;rw[e] at G;cases G
  split at h
  ·cases h;exact VB _ _ _ _ _ _ _ _ _ _ _ w q rfl o p
  ·cases h;exact WJ _ _ _ _ _ _ _ _ _ _ w q rfl o p
  ·split at h
   ·rename_i B;cases h;obtain⟨rfl,rfl,_⟩:=r;exact UG _ _ _ _ _ _ _ _ _ _ _ _ _ _ w q rfl o p _ _ B
   ·rename_i B;cases h;obtain⟨rfl,_⟩:=r;exact UH _ _ _ _ _ _ _ _ _ _ _ _ _ _ w q rfl o p _ B rfl
   cases h
  cases h
 cases h
theorem ZI(y:dP P b9){k:Nat}(h:Hg b9 t k a l=some (v,e,c)):
  b4 P H ⟨d,.field t x k,ty,pos,af,g⟩ [a] v:=by
 unfold Hg at h;split at h
 ·cases h
 rename_i i B;split at h
 ·rename_i Q C;obtain⟨r,n,s,_⟩:=(y _ _ B).st C;split at h
  ·cases h
  rename_i A m;rw[<-s,ev] at m;cases q:r[k]? with
  |none=>rw[pW,q] at m;cases m
  |some F=>
  rw[pW,q] at m;simp only[Option.map_some,Option.some.injEq] at m;subst m;split at h
  ·cases h
  rename_i j G;obtain⟨R,o,p⟩:=(y _ _ G).agg;split at h
  ·split at h
   ·rename_i w;split at h
    ·rename_i K;cases h;exact M4 _ _ _ _ _ _ n q o (.inl ⟨p.trans w,K,rfl⟩)
    cases h
   rename_i w;split at h
   ·rename_i L;cases h;exact M4 _ _ _ _ _ _ n q o (.inr ⟨p.trans w,L⟩)
   cases h
  cases h
 cases h
theorem lG{n:Int}(h:0<=n):n=((n.toNat:Nat):Int):=O
theorem ZG(G:dP P b9){o:List dc}(h:Hf b9 H t a b c=some (v,o,l))(q:cc o):
  b4 P H ⟨d,.indexAddr t x y,ty,pos,af,g⟩ [a,b] v:=by
 unfold Hf at h;split at h
 ·cases h
 rename_i i D;split at h
 ·rename_i e K;have B:P.underlying t=some (.slice e):=(G _ _ D).iw.2.2.2 e K;split at h
  ·cases h
  rename_i j L;obtain⟨I,C,_⟩:=G _ _ L;split at h
  ·rename_i p n;split at h
   ·rename_i r c;split at h
    ·rename_i w;cases h;obtain⟨Q,R⟩:=mG (show ar p n=some r from q.1);rw[lG Q];exact WI _ _ _ _ _ _ B C R (cL w)
    cases h
   cases h
  ·rename_i id gen size A len n;split at h
   ·rename_i s M p W w;cases h;obtain⟨rfl,rfl,⟨Q,R⟩,_⟩:=q;have X:n.toNat<len:=O
    have:=cL w;subst this;have N:=Vz (P:=P) (H:=H) (d:=d) (ty:=ty) (pos:=pos) (af:=af) (g:=g) x y e id s A len n.toNat _ _ W B C X
    grind
   ·rename_i m s p S W w;cases h;obtain⟨rfl,⟨Q,R⟩,_⟩:=q;have X:n.toNat<len:=O
    have:=cL w;subst this;have N:=UF (P:=P) (H:=H) (d:=d) (ty:=ty) (pos:=pos) (af:=af) (g:=g) x y e id _ A len n.toNat _ W rfl B C X
    grind
   cases h
  cases h
 ·rename_i m e K;obtain⟨T,f,F⟩:=G _ _ D;have B:P.underlying t=some (.array m e):=by
   simp only[cf.is,K] at F;rw[<-F];exact f.1
  split at h
  ·cases h
  rename_i j L;obtain⟨I,C,_⟩:=G _ _ L;split at h
  ·rename_i id A n k c;split at h
   ·rename_i w;cases h;rw[show n=(k:Int) from q.1];exact VA _ _ _ _ _ _ _ B C (dY w)
   cases h
  cases h
 cases h
theorem Xo(k:dP P b9)(h:Gs b9 t a b q=some (v,e,p))(i:cc e):
  b4 P H ⟨d,.index t x y,ty,pos,af,g⟩ [a,b] v:=by
 unfold Gs at h;split at h
 ·rename_i l n c q m;cases h;obtain⟨o,r⟩:=mG (show ar l n=some c from i.1);rw[lG o];exact Yo _ _ _ _ _ (Fo k m) r
 cases h
theorem ZD(o:dP P b9)(h:Hc b9 H t a l=some (v,m,c))(i:cc m):
  b4 P H ⟨d,.call {callee:= .builtin .len,args:= #[x],argTypes:= #[t]},ty,pos,af,g⟩ [a] v:=by
 unfold Hc at h;split at h
 ·split at h
  ·rename_i k;cases h;exact X8 _ _ (Fo o k)
  cases h
 ·split at h
  ·rename_i k;cases h;obtain⟨e,n⟩:=AJ o k;have q:=i.1;rw[<-q];exact Yq _ _ _ n
  cases h
 ·split at h
  ·rename_i p k;cases h;obtain⟨rfl,rfl,rfl,_⟩:=i;obtain⟨e,n⟩:=AJ o k;exact XL _ _ _ _ _ _ _ n _ _ p
  ·rename_i p k;cases h;obtain⟨rfl,rfl,_⟩:=i;obtain⟨e,n⟩:=AJ o k;exact WH _ _ _ _ _ _ _ n _ p rfl
  cases h
 cases h
theorem Xm(K:dP P b9){y A:Option Operand}{B:List V}{D T:List cq}{l9:List dc}(h:Gq b9 H t y A B D=some (v,l9,T))(n:cc l9):
  b4 P H ⟨d,.slice t x y A none,ty,pos,af,g⟩ B v:=by
 unfold Gq at h;split at h
 ·rename_i l M;split at h
  ·rename_i a b r D U c;cases h;obtain⟨k,Y,N,rfl⟩:=AK n.1;have p:=Fo K U;unfold r4 at c;split at c
   ·cases c;rw[lG k,lG (O:0<=b)];exact UU _ _ _ _ _ _ p O O
   ·cases c
    have:=SC (P:=P) (H:=H) (d:=d) (ty:=ty) (pos:=pos) (af:=af) (g:=g) x ‹_› l a.toNat p O;rw[<-lG k] at this;simpa using this
   ·cases c
    have:=SY (P:=P) (H:=H) (d:=d) (ty:=ty) (pos:=pos) (af:=af) (g:=g) x ‹_› l b.toNat p O
    grind
   cases c
  cases h
 ·rename_i C M;split at h
  ·cases h
  rename_i i L;split at h
  ·rename_i e hu;have p:P.underlying t=some (.slice e):=(K _ _ L).iw.2.2.2 e hu;split at h
   ·rename_i j a b r D Q c;cases h;obtain⟨I,F,_⟩:=n;obtain⟨k,Y,N,rfl⟩:=AK I;obtain⟨qT,s,_⟩:=K _ _ Q;unfold r4 at c;split at c
    ·cases c;rw[lG k,lG (O:0<=b)];exact WB _ _ _ _ _ _ _ p s O O F
    ·cases c
     have:=S4 (P:=P) (H:=H) (d:=d) (ty:=ty) (pos:=pos) (af:=af) (g:=g) x ‹_› e C a.toNat p s O F;rw[<-lG k] at this;simpa using this
    ·cases c
     have:=TI (P:=P) (H:=H) (d:=d) (ty:=ty) (pos:=pos) (af:=af) (g:=g) x ‹_› e C b.toNat p s O F
     grind
    cases c
   cases h
  cases h
 ·rename_i id aiL sz R q M;split at h
  ·rename_i i lI L S;split at h
   ·rename_i e hu;have p:P.underlying t=some (.slice e):=(K _ _ L).iw.2.2.2 e hu;obtain⟨HL,hH,S⟩:=Option.bind_eq_some_iff.1 S;have W: ∀{a b:Int},r4 y A q M=some (a,b)->0<=a->0<=b-> ∀β w X (G:Operand->Value),dj β w X M (y.toList.map G++A.toList.map G)->qn q y A G a.toNat b.toNat:=by
     intro a b c I k β w X G F;unfold r4 at c;split at c
     ·cases c;refine⟨?_,?_⟩
      ·show G _=_;rw[y2 I];exact dy F.1
      show G _=_;rw[y2 k];exact dy F.2.1
     ·cases c;refine⟨?_,by show _=_;simp⟩;show G _=_;rw[y2 I];exact dy F.1
     ·cases c;refine⟨by show _=_;simp,?_⟩;show G _=_;rw[y2 k];exact dy F.1
     cases c
    split at h
    ·rename_i j a b o m D Q c;cases h;obtain⟨rfl,rfl,⟨k,Y,N,h4,rfl,rfl⟩,_⟩:=n;obtain⟨qT,s,_⟩:=K _ _ Q;exact abt x y A e id _ R q a.toNat b.toNat HL hH S p s O O O (W c k O)
    ·rename_i j a b D Q c;cases h;obtain⟨rfl,⟨k,rfl,N⟩,_⟩:=n;obtain⟨qT,s,_⟩:=K _ _ Q;exact aac x y A e id _ _ R q a.toNat HL hH S p s O (W c k k)
    ·rename_i j a b o m D Q c;split at h
     ·rename_i f;cases h;obtain⟨rfl,rfl,rfl,⟨I,k,Y,N,rfl,rfl⟩,_⟩:=n;obtain⟨qT,s,_⟩:=K _ _ Q;exact aab x y A e _ id _ R q a.toNat b.toNat _ f p s I O O (W c k O)
     cases h
    cases h
   cases h
  cases h
 cases h
theorem Wd(A:dP P b9){k m:Operand}{U:List V}(h:F8 b9 H t U n=some (v,r,l))(o:cc r):
  b4 P H ⟨d,.slice t x (some y) (some k) (some m),ty,pos,af,g⟩ U v:=by
 unfold F8 at h;split at h
 ·rename_i id R W p q a b c;split at h
  ·rename_i i X s w;split at h
   ·rename_i e B;have C:P.underlying t=some (.slice e):=(A _ _ s).iw.2.2.2 e B;obtain⟨F,G,w⟩:=Option.bind_eq_some_iff.1 w;split at h
    ·rename_i j K;cases h;obtain⟨rfl,⟨L,f,D,I⟩,_⟩:=o;obtain⟨M,Q,_⟩:=A _ _ K;rw[lG L,lG (O:0<=b),lG (O:0<=c)];exact Yn x y k m e id _ _ p q a.toNat b.toNat c.toNat F G w C Q O O O
    cases h
   cases h
  cases h
 cases h
theorem YP(o:dP P b9){k:Operand}{U:List V}(h:G1 b9 t U l=some (v,m,c))(a:cc m):
  b4 P H ⟨d,.slice t x none (some y) (some k),ty,pos,af,g⟩ U v:=by
 unfold G1 at h;split at h
 ·split at h
  ·rename_i i n;split at h
   ·rename_i e p;have q:P.underlying t=some (.slice e):=(o _ _ n).iw.2.2.2 e p;split at h
    ·rename_i j r;cases h;obtain⟨⟨s,rfl⟩,w,_⟩:=a;obtain⟨C,F,A,rfl⟩:=AK s;obtain⟨G,B,_⟩:=o _ _ r
     have:=UN (P:=P) (H:=H) (d:=d) (ty:=ty) (pos:=pos) (af:=af) (g:=g) x y k e _ _ q B (Int.toNat_le.2 A) w
     grind
    cases h
   cases h
  cases h
 cases h
theorem Ve(n:dP P b9){b:Builtin}{a:List TypeId}{e:List Operand}{U:List V}(h:Fu b9 H b a e U l=some (v,m,c))(i:cc m):
  b4 P H ⟨d,.call {callee:= .builtin b,args:=e.toArray,argTypes:=a.toArray},ty,pos,af,g⟩ U v:=by
 unfold Fu at h;split at h
 ·exact ZD n h i
 ·split at h
  ·rename_i k;subst k;cases h;exact acP _ _ _ _ _ _
  cases h
 ·split at h
  ·rename_i k;subst k;cases h;exact acO _ _ _ _ _ _
  cases h
 cases h
theorem Z1(h:Ha H a l=some (v,e,c))(i:cc e):b4 P H ⟨d,.nilCheck x,ty,pos,af,g⟩ [a] v:=by
 unfold Ha at h;split at h
 ·split at h
  ·rename_i o k;cases h;obtain⟨rfl,_⟩:=i;obtain⟨m,n,k⟩:=Option.bind_eq_some_iff.1 k;exact Vy _ _ _ _ _ _ m n k
  cases h
 ·cases h;exact K9 _ _ rfl
 ·cases h;exact K9 _ _ rfl
 ·cases h;exact Vx _ _ _
 cases h
theorem WW(o:dP P b9){a:Array (Nat×Operand)}{U:List V}(h:Gv b9 t (a.toList.map (·.1)) U l=some (v,e,c)):
  b4 P H ⟨d,.build t a,ty,pos,af,g⟩ U v:=by
 unfold Gv at h;split at h
 ·cases h
 rename_i i p;split at h
 ·rename_i x q;split at h
  ·rename_i cs r s w;cases h;obtain⟨k,m,_,n⟩:=(o _ _ p).st q;exact aag a k i.places U cs m n r (by simpa using s) w
  cases h
 cases h
theorem abT(k:dP P b9){a:Op}{U:List V}(h:xL P b9 H a U n=some (v,e,l))(i:cc e):
  b4 P H ⟨d,a,ty,pos,af,g⟩ U v:=by
 unfold xL at h;split at h
 ·split at h
  ·cases h;exact abl _ _
  cases h
 ·split at h
  ·cases h;exact Ys _ _
  cases h
 ·split at h
  ·rename_i b v w c n;cases h;obtain⟨q,_⟩:=i;subst q;cases b
   ·exact UO _ _ _ _ _
   exact Vw _ _ _ _ _
  cases h
 ·split at h
  ·split at h
   ·rename_i s;cases h;exact MD k s i
   exact Xn k h i
  cases h
 ·split at h
  ·exact Z1 h i
  cases h
 ·split at h
  ·split at h
   ·rename_i r o;cases h;exact ZL k o i
   split at h
   ·rename_i r o;cases h;exact ZF k o
   exact Z0 k h i
  cases h
 ·split at h
  ·exact aa0 h
  cases h
 ·split at h
  ·exact YO k h i
  cases h
 ·rename_i B first p
  split at h
  ·rename_i f x;cases h
   have:first= #[]:=by simpa using x
   subst this;exact WD _ _ _
  cases h
 ·split at h
  ·exact Xm k h i
  split at h
  ·exact Wd k h i
  ·exact YP k h i
  cases h
 ·split at h
  ·exact Xp k h i
  cases h
 ·split at h
  ·exact ZI k h
  cases h
 ·split at h
  ·exact ZG k h i
  cases h
 ·split at h
  ·exact Xo k h i
  cases h
 ·split at h
  ·split at h
   ·rename_i y;cases h;exact XM _ _ _ _ y
   cases h
  cases h
 ·exact WW k h
 ·rename_i c;obtain⟨m,args,A⟩:=c;dsimp only at h;split at h
  ·have:=Ve (d:=d) (ty:=ty) (pos:=pos) (af:=af) (g:=g) k h i;simpa using this
  cases h
 cases h
end
section
def jV(P:Program)(G:eY)(f:FuncId)(args:List V)(r:V):Prop:=ig P f/\EF P G f args r
def jb(P:Program)(G:eY)(f:FuncId)(a:List E)(args:List V)(r:V)(c:List E):Prop:=
 ig P f/\Kp P G f a args (ι:=Unit) (λ_=>True) (λ_=>r) λ_=>c
def e4(d:Option Tmp)(v:V):List (Nat×V):=match d with
 |some d=>[(d,v)]
 |none=>[]
def j2(a:Nat):Option Tmp->Bool
 |some d=>Nat.blt d a
 |none=>true
theorem gR{K:Ctx}{d:Option Tmp}(h:j2 K.nt d=true): ∀i,d=some i->Nat.blt i K.nt=true:=by intro i a;subst a;exact h
def iP:T->T
 | .fe=> .aA []
 |x=>x
variable {w:World}{X:Nat->Prop}{m:Nat}
theorem cP.yu{x:T}{v:Value}(h:cP w X x v):cP w X (iP x) v:=by
 cases h with
 |fe=>exact .fI _ _
 |bool b=>exact .bool b
 |int k n=>exact .int k n
 |str l=>exact .str l
 |fI a c=>exact .fI a c
 |aA e b m size c f p q i o r y=>exact .aA e b m size c f p q i o r y
 |gV=>exact .gV
 |gw=>exact .gw
 |nB=>exact .nB
 |err t v=>exact .err t v
theorem aay{G:Map}{k:Nat}{c:TypeId}{gen n:Nat}{z:List T}(h:cC G w X k (.arr c gen n (List.replicate m z))):cC G w X k (.arr c gen n (List.replicate m (z.map iP))):=by
 refine⟨h.1,?_⟩;rcases h.2 with ⟨q,l⟩|⟨b,r,q,l,A,F,B⟩
 ·have:m=0:=by simpa using l
  grind
 refine .inr ⟨b,r,q,l,by simpa using A,λo a=>?_,λi j o x u a e C=>?_⟩
 ·obtain⟨H,rfl⟩:=vR.1 a
  grind
 rw[tt] at a;split at a
 ·cases a;rw[ev] at e;cases p:z[j]? with
  |none=>rw[p] at e;simp at e
  |some y=>
   rw[p] at e;simp at e;subst e;exact(B i j z y u (by rw[tt,a1 ‹_›]) p C).yu
 cases a
def lr(a:Nat):Nat->List T->List (List T)
 |0,_=>[]
 |n+1,l=>l.take a::lr a n (l.drop a)
theorem A2(a:Nat): ∀(n:Nat) (l:List T),l.length=n*a->(lr a n l).length=n/\(∀c,c∈lr a n l->c.length=a)/\(lr a n l).flatten=l
 |0,l,h=>by
  have:l=[]:=by simpa using h
  subst this;exact⟨rfl,λ_ h=>by simp[lr] at h,rfl⟩
 |n+1,l,h=>by
  rw[dG] at h;obtain⟨e,i,k⟩:=A2 a n (l.drop a) bN;refine⟨by simp[lr,e],?_,by simp[lr,k]⟩;intro c bR;simp only[lr,List.mem_cons] at bR;rcases bR with rfl|bR
  ·simp;omega
  exact i c bR
structure dH where
 P:Program
 G:eY
 b9:List (Nat×cf)
 nt:Nat
 c6:Nat
 fW:Map
def idxOf(a:Nat):List Nat->Nat->Option Nat
 | [],_=>none
 |x::r,k=>bif Nat.beq x a then some k else idxOf a r (k+1)
theorem Al{n:Nat}: ∀{L:List Nat} {k m:Nat},idxOf n L k=some m->k<=m/\L[m-k]? =some n
 | [],_,_,h=>by cases h
 |x::r,k,m,h=>by
  simp only[idxOf] at h;cases a:Nat.beq x n with
  |true=>rw[a] at h;cases h;rw[cL a];exact⟨cJ _,aP⟩
  |false=>
   rw[a] at h;obtain⟨e,c⟩:=Al (L:=r) (k:=k+1) h;refine⟨O,?_⟩;rw[show m-k=(m-(k+1))+1 by omega];simpa using c
mutual
def tp(L:List Nat):V->Option V
 | .ref id a=>match idxOf id L 0 with
  |some k=>some (.ref k a)
  |none=>none
 | .a8 id gen size a c=>match idxOf id L 0 with
  |some k=>some (.a8 k gen size a c)
  |none=>none
 | .fn f cs=>match tn L cs with
  |some cs=>some (.fn f cs)
  |none=>none
 | .cw id gen size i a=>match idxOf id L 0 with
  |some k=>some (.cw k gen size i a)
  |none=>none
 | .t x=>some (.t x)
 | .aL x=>some (.aL x)
 | .agg cs=>match tn L cs with
  |some cs=>some (.agg cs)
  |none=>none
 |_=>none
def tn(L:List Nat):List V->Option (List V)
 | []=>some []
 |c::cs=>match tp L c,tn L cs with
  |some c,some cs=>some (c::cs)
  |_,_=>none
end
mutual
theorem ab2{L:List Nat}: ∀(v e:V),tp L v=some e->e.dp L=v/\e.ok (d5 L.length)=true
 | .ref id n,e,h=>by
  simp only[tp] at h;split at h
  ·rename_i k o;cases h;obtain⟨_,a⟩:=Al o;simp only[Nat.sub_zero] at a;have c:=(bU.1 a).1;exact⟨by simp[V.dp,List.getD_eq_getElem?_getD,a],jd.2 c⟩
  cases h
 | .a8 id gen size n q,e,h=>by
  simp only[tp] at h;split at h
  ·rename_i k o;cases h;obtain⟨_,a⟩:=Al o;simp only[Nat.sub_zero] at a;have c:=(bU.1 a).1;exact⟨by simp[V.dp,List.getD_eq_getElem?_getD,a],jd.2 c⟩
  cases h
 | .cw id gen size i n,e,h=>by
  simp only[tp] at h;split at h
  ·rename_i k o;cases h;obtain⟨_,a⟩:=Al o;simp only[Nat.sub_zero] at a;have c:=(bU.1 a).1;exact⟨by simp[V.dp,List.getD_eq_getElem?_getD,a],jd.2 c⟩
  cases h
 | .fn f cs,e,h=>by
  simp only[tp] at h;split at h
  ·rename_i l m;cases h;obtain⟨p,a⟩:=w8 cs l m;exact⟨by simp[V.dp,p],by simpa[V.ok] using a⟩
  cases h
 | .agg cs,e,h=>by
  simp only[tp] at h;split at h
  ·rename_i l m;cases h;obtain⟨p,a⟩:=w8 cs l m;exact⟨by simp[V.dp,p],by simpa[V.ok] using a⟩
  cases h
 | .t x,e,h=>by cases h;exact⟨rfl,rfl⟩
 | .aL x,e,h=>by cases h;exact⟨rfl,rfl⟩
 | .bH _,_,h| .cY,_,h=>by cases h
theorem w8{L:List Nat}: ∀(cs a:List V),tn L cs=some a->iO L a=cs/\gv (d5 L.length) a=true
 | [],_,h=>by cases h;exact⟨rfl,rfl⟩
 |c::cs,a,h=>by
  simp only[tn] at h;split at h
  ·rename_i i e k l;cases h;obtain⟨aI,a2⟩:=ab2 c i k;obtain⟨m,n⟩:=w8 cs e l;exact⟨by simp[iO,aI,m],by simp[gv,a2,n]⟩
  cases h
end
def tZ(L:List Nat)(H:Nat->Option E):List Nat->Option (List E)
 | []=>some []
 |id::c=>match H id with
  |some (.cells cs)=>match tn L cs,tZ L H c with
   |some cs,some e=>some (.cells cs::e)
   |_,_=>none
  |some (.arr ty gen size a)=>match tZ L H c with
   |some e=>some (.arr ty gen size a::e)
   |none=>none
  |some (.a7 h m gen a [])=>match tZ L H c with
   |some e=>some (.a7 h m gen a []::e)
   |none=>none
  |some (.a7 _ _ _ _ (_::_))=>none
  |none=>none
theorem Ak{L:List Nat}{H:Nat->Option E}: ∀(a:List Nat) (gF:List E),tZ L H a=some gF->gF.length=a.length/\ ∀(k:Nat) (e:E),gF[k]? =some e-> ∃id,a[k]? =some id/\H id=some (e.dp L)/\e.ok (d5 L.length)=true
 | [],_,h=>by cases h;exact⟨rfl,λk e h=>by simp at h⟩
 |id::a,gF,h=>by
  simp only[tZ] at h;split at h
  ·rename_i cs hid;split at h
   ·rename_i r l w n;cases h;obtain⟨aI,a2⟩:=Ak a l n;obtain⟨x,y⟩:=w8 cs r w;refine⟨by simp[aI],λk e c=>?_⟩;cases k with
    |zero=>simp at c;subst c;exact⟨id,rfl,by rw[hid];simp only[E.dp,x],y⟩
    |succ k=>simp at c;obtain⟨i,o,p⟩:=a2 k e c;exact⟨i,by simpa using o,p⟩
   cases h
  ·rename_i ty gen size q hid;split at h
   ·rename_i l n;cases h;obtain⟨aI,a2⟩:=Ak a l n;refine⟨by simp[aI],λk e c=>?_⟩;cases k with
    |zero=>simp at c;subst c;exact⟨id,rfl,hid,rfl⟩
    |succ k=>simp at c;obtain⟨i,o,p⟩:=a2 k e c;exact⟨i,by simpa using o,p⟩
   cases h
  ·rename_i A m gen q hid;split at h
   ·rename_i l n;cases h;obtain⟨aI,a2⟩:=Ak a l n;refine⟨by simp[aI],λk e c=>?_⟩;cases k with
    |zero=>simp at c;subst c;exact⟨id,rfl,hid,rfl⟩
    |succ k=>simp at c;obtain⟨i,o,p⟩:=a2 k e c;exact⟨i,by simpa using o,p⟩
   cases h
  ·cases h
  cases h
def BB(a:Nat):List Nat->Bool
 | []=>true
 |x::l=>bif Nat.beq x a then false else BB a l
theorem MA{n:Nat}: ∀{l:List Nat},BB n l=true->n∉l
 | [],_,h=>by cases h
 |x::l,h,hm=>by
  simp only[BB] at h;cases a:Nat.beq x n with
  |true=>rw[a] at h;cases h
  |false=>
   rw[a] at h;rcases dL.1 hm with rfl|hm
   ·simp at a
   exact MA h hm
def Bs:List Nat->Bool
 | []=>true
 |x::l=>BB x l&&Bs l
theorem zT: ∀{l:List Nat},Bs l=true->l.Nodup
 | [],_=>List.nodup_nil
 |x::l,h=>by simp only[Bs,Bool.and_eq_true] at h;exact List.nodup_cons.2 ⟨MA h.1,zT h.2⟩
def AW(u:Nat->Bool):List Nat->Bool
 | []=>true
 |x::l=> !u x&&AW u l
theorem La{u:Nat->Bool}: ∀{l:List Nat},AW u l=true-> ∀id,id∈l->u id=false
 | [],_,_,h=>by cases h
 |x::l,h,id,hm=>by
  simp only[AW,Bool.and_eq_true,Bool.not_eq_true'] at h;rcases dL.1 hm with rfl|hm
  ·exact h.1
  exact La h.2 id hm
theorem K'{u:Nat->Bool}{n:Nat}: ∀{l:List Nat},n∈l->df u (l.map λk=>(k,true)) n=true
 |x::l,h=>by
  simp only[List.map_cons,df];by_cases a:n∈l
  ·rw[A5 _ _ u _ ⟨true,ey.2 ⟨n,a,rfl⟩⟩];exact K' a
  rcases dL.1 h with rfl|h
  ·rw[mz _ _ _ (λv c=>a (by obtain⟨y,i,e⟩:=ey.1 c;cases e;exact i)),bP]
  exact bz h a
theorem K8{a:Type}: ∀(L:List Nat),L.Nodup-> ∀(f:Nat->a) (c:List a) (g:Nat->a),c.length=L.length->(∀(k:Nat) x,c[k]? =some x->g k=x)->df f (L.zip c)=k9 f L g
 | [],_,f,c,g,_,_=>by simp[df,k9]
 |l::L,e,f,[],g,h,_=>by simp at h
 |l::L,e,f,x::c,g,h,o=>by
  simp only[List.nodup_cons] at e;simp only[List.zip_cons_cons,df,k9];rw[K8 L e.2 (aS f l x) c (λk=>g (k+1)) (by simpa using h) (λk y q=>o (k+1) y (by simpa using q)),o 0 x rfl];funext i;by_cases m:i=l
  ·subst m;rw[ns e.1,bP,bP]
  rw[bQ _ _ _ _ m];by_cases n:i∈L
  ·obtain⟨k,p⟩:=kf.1 n;rw[oA e.2 p,oA e.2 p]
  rw[ns n,ns n,bQ _ _ _ _ m]
abbrev i':=Option (cN×List dc×List cq)
def uk(d:Option Tmp)(u:Nat->Bool)(v:V)(a:List cq):i':=
 match a with
 | .nat k::a=>match u k,v.val with
  |false,true=>some (⟨e4 d (.ref k 0),[(k,some (.cells v.cs))],[(k,true)]⟩,[],a)
  |_,_=>none
 |_=>none
def GN(d:Option Tmp)(v:V)(a:List cq):i':=
 match a with
 | .b true::a=>match (nC v).val,ly (nC v).cs with
  |true,some c=>some (⟨e4 d (.aL c),[],[]⟩,[],a)
  |_,_=>none
 |_=>none
def QL:List cq->Bool
 | .b true::_=>true
 |_=>false
def Gp(C:dH)(t:TypeId)(H:Nat->Option E)(a v:V)(o:List cq):i':=
 match dr C.b9 t with
 |none=>none
 |some i=>match a with
  | .ref id c=>match H id with
   |some (.cells cs)=>match v.val,nK v.cs,Nat.beq v.cs.length i.size,Nat.ble (c+i.size) cs.length with
    |true,true,true,true=>some (⟨[],[(id,some (.cells (mP cs c v.cs)))],[]⟩,[],o)
    |_,_,_,_=>none
   |_=>none
  | .cw id gen x k c=>match H id,ly (nC v).cs,o with
   |some (.arr e l n m),some w,.row r:: .rows h::o=>match (nC v).val,Nat.beq w.length i.size,Nat.ble (c+i.size) x with
    |true,true,true=>some (⟨[],[(id,some (.arr e l n h))],[]⟩,
      [.q l gen,.q n x,.p (m[k]? =some r),.p (h=m.set k (r.take c++w++r.drop (c+w.length)))],o)
    |_,_,_=>none
   |_,_,_=>none
  |_=>none
def t'(k a n:Nat):List (Nat×Nat×V)->List dc
 | []=>[]
 |h::c=>bif Nat.ble a h.2.1&&Nat.blt h.2.1 (a+n) then .q h.1 k::t' k a n c else t' k a n c
def ua(k a n:Nat):List (Nat×Nat×V)->List dc
 | []=>[]
 |h::c=>bif Nat.ble a h.2.1&&Nat.blt h.2.1 (a+n) then .p (h.1≠k)::ua k a n c else ua k a n c
def F7(C:dH)(t:TypeId)(H:Nat->Option E)(a v:V)(w:List cq):i':=
 match dr C.b9 t,a,w with
 |some i,.cw id gen y k c,.row r::w=>match H id with
  |some (.a7 x m e h o)=>match v.val&&(nK v.cs&&(Nat.beq v.cs.length i.size&&(Nat.ble (c+i.size) r.length&&Nat.blt 0 i.size))),rQ o c i.size with
   |true,some l=>some (⟨[],[(id,some (.a7 x m e h (qb c v.cs o)))],[]⟩,.q e gen:: .q (U x m).size y:: .p (h[k]? =some r)::(rZ k l++t' k c i.size o),w)
   |_,_=>none
  |_=>none
 |some i,.cw id gen y k c,.int q:: .nat n:: .row r::w=>match H id with
  |some (.a7 x m e h o)=>match v.val&&(nK v.cs&&(Nat.beq v.cs.length i.size&&(Nat.ble (c+i.size) r.length&&Nat.blt 0 i.size))),rQ ((o.drop q.toNat).take n) c i.size with
   |true,some l=>some (⟨[],[(id,some (.a7 x m e h (o.take q.toNat++(qb c v.cs ((o.drop q.toNat).take n)++(o.drop q.toNat).drop n))))],[]⟩,
     .q e gen:: .q (U x m).size y:: .p (h[k]? =some r)::(rZ k l++(t' k c i.size ((o.drop q.toNat).take n)++(ua k c i.size (o.take q.toNat)++ua k c i.size ((o.drop q.toNat).drop n)))),w)
   |_,_=>none
  |_=>none
 |_,_,_=>none
def w9(z:List T):List (Nat×Nat)->Bool
 | []=>true
 |p::l=>(match z[p.1]? with|some .fe=>true|_=>false)&&w9 z l
def GW(C:dH)(d:Option Tmp)(t:TypeId)(u:Nat->Bool)(v w:V)(c:List cq):i':=
 match dr C.b9 t with
 |none=>none
 |some i=>match i.u with
  | .slice e=>match dr C.b9 e with
   |none=>none
   |some j=>match v,w,c,ly (gQ j.z).cs with
    | .t (.int .i64 n),.t (.int .i64 m),.nat k:: .rows R::c,some a=>match u k,(gQ j.z).val,Nat.beq a.length j.size,Nat.blt 0 j.size&&Nat.ble j.bytes 200000 with
     |false,true,true,true=>some (⟨e4 d (.a8 k 1 j.size 0 R.length),[(k,some (.arr e 1 j.size R))],[(k,true)]⟩,[.q n.toNat m.toNat,.p (mk n (a.map iP)=some R),.p (0<=m)],c)
     |_,_,_,_=>none
    | .t (.int .i64 n),.t (.int .i64 m),.nat k:: .dM _ h q:: .rows R::c,some a=>match u k,(gQ j.z).val&&w9 a (U h q).bm,Nat.beq a.length j.size,Nat.blt 0 j.size&&Nat.ble j.bytes 200000 with
     |false,true,true,true=>some (⟨e4 d (.a8 k 1 j.size 0 R.length),[(k,some (.a7 h q 1 R []))],[(k,true)]⟩,[.q (U h q).ty e,.q (U h q).size j.size,.q n.toNat m.toNat,.p (mk n (a.map iP)=some R),.p (0<=m)],c)
     |_,_,_,_=>none
    |_,_,_,_=>none
  |_=>none
def FW(C:dH)(d:Option Tmp)(t x:TypeId)(H:Nat->Option E)(v w:V)(m:List cq):i':=
 match dr C.b9 t with
 |none=>none
 |some i=>match i.u with
  | .slice e=>match dr C.b9 e with
   |none=>none
   |some j=>match v,nC w,m with
    | .a8 k gen size n o,.t (.aA l),.rows R::m=>match H k with
     |some (.arr r a c h)=>match Nat.beq n 0,Nat.beq j.z.cells.size j.size&&(Nat.blt 0 j.size&&Nat.ble j.bytes 140000),Nat.beq r e&&Nat.beq x t with
      |true,true,true=>some (⟨e4 d (.a8 k (a+1) size 0 R.length),[(k,some (.arr r (a+1) c R))],[]⟩,
        [.q a gen,.q c size,.q size j.size,.q o h.length,.p (app h l=some R),.p (Rows j.size h),.p (Rows j.size l)],m)
      |_,_,_=>none
     |_=>none
    |_,_,_=>none
  |_=>none
def Fv(C:dH)(d:Option Tmp)(t B:TypeId)(H:Nat->Option E)(v w:V)(x:List cq):i':=
 match dr C.b9 t with
 |none=>none
 |some i=>match i.u with
  | .slice e=>match dr C.b9 e with
   |none=>none
   |some j=>match v,w,x with
    | .a8 k gen size o l,.a8 d' Q W F y,.rows R::x=>match H k,H d' with
     |some (.a7 A m c a []),some (.a7 G f L (X::n) r)=>match Nat.beq o 0&&Nat.beq F 0,Nat.beq j.z.cells.size j.size&&(Nat.blt 0 j.size&&Nat.ble j.bytes 140000),Nat.beq B t&&(w3 (U A m) (n.length+1) r&&tO r) with
      |true,true,true=>some (⟨e4 d (.a8 k (c+1) size 0 R.length),[(k,some (.a7 A m (c+1) R (hW a.length r)))],[]⟩,
        [.q c gen,.q L Q,.q W size,.q size j.size,.q (U A m).size size,.q (U A m).ty e,.q y (n.length+1),.q l a.length,.p (U G f=U A m),.p (app a (X::n)=some R),.p (Rows j.size a),.p (Rows j.size (X::n))],x)
      |_,_,_=>none
     |some (.arr b c h a),some _=>match Nat.beq d' k&&Nat.beq o 0,Nat.beq b e&&(Nat.beq B t&&Nat.blt 0 j.size) with
      |true,true=>some (⟨e4 d (.a8 k gen size 0 (l+y)),[(k,some (.arr b c h R))],[]⟩,
        [.q c gen,.q Q gen,.q h size,.q W size,.q j.size size,.p (l+y<=a.length),.p (F+y<=a.length),.p (R=a.take l++(a.drop F).take y++a.drop (l+y))],x)
      |_,_=>none
     |_,_=>none
    | .a8 k gen size o l,.t (.aA []),.int 0::x=>match H k with
     |some (.arr _ c h _)=>match Nat.beq o 0&&Nat.blt 0 j.size,Nat.beq B t with
      |true,true=>some (⟨e4 d (.a8 k gen size 0 l),[],[]⟩,[.q c gen,.q h size,.q j.size size],x)
      |_,_=>none
     |_=>none
    |_,_,_=>none
  |_=>none
def wx(d:dN):Nat->List V->Option (List T×List (Nat×Nat×V))
 |_,[]=>some ([],[])
 |j,v::c=>match wx d (j+1) c with
  |none=>none
  |some (r,a)=>match d.en j with
   |some _=>bif v.one then some (.aA []::r,(0,j,v)::a) else none
   |none=>match yQ v with
    |some x=>some (x::r,a)
    |none=>none
def qa:Nat->List V->List (Nat×Nat×V)
 |_,[]=>[]
 |i,v::vs=>(i,0,v)::qa (i+1) vs
def GX(C:dH)(d:Option Tmp)(t:TypeId)(n:Nat)(l:List Nat)(u:Nat->Bool)(a:List V)(h:List cq):i':=
 match dr C.b9 t with
 |none=>none
 |some i=>match i.u with
  | .slice e=>match dr C.b9 e with
   |none=>none
   |some j=>match n,h with
    |1,.lt k c m::h=>match kM (λi=>some (i*j.size,j.size)) (List.replicate (1*j.size) .cY) (l.zip (uu ((U c m).en 0) a)) with
     |none=>none
     |some cs=>match wx (U c m) 0 cs with
      |none=>none
      |some (r,o)=>match u k,Nat.beq cs.length j.size&&Nat.beq (U c m).size j.size,Nat.beq l.length a.length&&Nat.beq (U c m).ty e,Nat.ble (1*j.size) 16777216,Nat.blt 0 j.size with
       |false,true,true,true,true=>some (⟨e4 d (.a8 k 1 j.size 0 1),[(k,some (.a7 c m 1 [r] o))],[(k,true)]⟩,[],h)
       |_,_,_,_,_=>none
    |n,.lt k c m::h=>match kM (λi=>some (i*j.size,j.size)) (List.replicate (n*j.size) .cY) (l.zip (gJ a)) with
     |none=>none
     |some cs=>match u k,Nat.beq j.size 1&&(Nat.beq cs.length n&&nK cs),Nat.beq l.length a.length&&(Nat.beq (U c m).ty e&&Nat.beq (U c m).size 1),Nat.ble (n*j.size) 16777216,Nat.blt 0 n with
      |false,true,true,true,true=>some (⟨e4 d (.a8 k 1 1 0 n),[(k,some (.a7 c m 1 (List.replicate n [.aA []]) (qa 0 cs)))],[(k,true)]⟩,[],h)
      |_,_,_,_,_=>none
    |_,_=>none
  |_=>none
def Hb(C:dH)(d:Option Tmp)(t:TypeId)(n:Nat)(c:List Nat)(u:Nat->Bool)(a:List V)(h:List cq):i':=
 match dr C.b9 t with
 |none=>none
 |some i=>match i.u with
  | .slice e=>match dr C.b9 e with
   |none=>none
   |some j=>match n,c,h with
    |0,[],.nat k::h=>match u k with
     |false=>some (⟨e4 d (.a8 k 1 j.size 0 0),[(k,some (.arr e 1 j.size []))],[(k,true)]⟩,[],h)
     |true=>none
    |n,c,.int 1:: .nat k::h=>match kM (λi=>some (i*j.size,j.size)) (List.replicate (n*j.size) .cY) (c.zip (gJ a)) with
     |none=>none
     |some cs=>match ly cs with
      |none=>none
      |some l=>match u k,Nat.beq l.length (n*j.size),Nat.beq c.length a.length,Nat.ble (n*j.size) 16777216,Nat.blt 0 j.size with
       |false,true,true,true,true=>some (⟨e4 d (.a8 k 1 j.size 0 (lr j.size n l).length),[(k,some (.arr e 1 j.size (lr j.size n l)))],[(k,true)]⟩,[],h)
       |_,_,_,_,_=>none
    |n,c,.int 2:: .rows R::h=>match kM (λi=>some (i*j.size,j.size)) (List.replicate (n*j.size) .cY) (c.zip (gJ a)) with
     |none=>none
     |some cs=>match ly cs with
      |none=>none
      |some l=>match Nat.beq l.length (n*j.size),Nat.beq c.length a.length,Nat.ble (n*j.size) 16777216 with
       |true,true,true=>some (⟨e4 d (.t (.aA R)),[],[]⟩,[.p (lr j.size n l=R)],h)
       |_,_,_=>none
    |n,c,.int 0::h=>match kM (λi=>some (i*j.size,j.size)) (List.replicate (n*j.size) .cY) (c.zip (gJ a)) with
     |none=>none
     |some cs=>match ly cs with
      |none=>none
      |some l=>match Nat.beq l.length (n*j.size),Nat.beq c.length a.length,Nat.ble (n*j.size) 16777216 with
       |true,true,true=>some (⟨e4 d (.t (.aA (lr j.size n l))),[],[]⟩,[],h)
       |_,_,_=>none
    |_,_,_=>none
  |_=>none
mutual
def r2:V->Bool
 | .t (.int _ _)| .t (.bool _)| .t (.str _)=>true
 | .agg cs=>uj cs
 | .bH cs=>uj cs
 |_=>false
def uj:List V->Bool
 | []=>true
 |c::cs=>r2 c&&uj cs
end
def xD(H:Nat->Option E):V->Option (T×List dc)
 | .a8 k gen size h i=>match H k with
  |some (.arr _ c e a)=>some (.aA a,[.q gen c,.q size e,.q h 0,.q i a.length])
  |some (.a7 l m c a [])=>some (.aA a,[.q gen c,.q size (U l m).size,.q h 0,.q i a.length])
  |_=>none
 | .t x=>some (iP x,[])
 |_=>none
def BL(H:Nat->Option E):List V->Option (List T×List dc)
 | []=>some ([],[])
 |v::a=>match xD H v,BL H a with
  |some (x,c),some (e,h)=>some (x::e,c++h)
  |_,_=>none
mutual
def ni(H:Nat->Option E):V->Option (V×List dc)
 | .a8 k gen size c h=>match xD H (.a8 k gen size c h) with
  |some (x,a)=>some (.t x,a)
  |none=>none
 | .t x=>some (.t (iP x),[])
 | .aL cs=>some (.aL cs,[])
 | .ref id c=>match H id with
  |some (.cells cs)=>match BL H cs with
   |some (fg,a)=>some (.aL (fg.drop c),a)
   |none=>none
  |_=>none
 | .agg cs=>match pa H cs with
  |some (e,a)=>some (.agg e,a)
  |none=>none
 | .bH cs=>match pa H cs with
  |some (e,a)=>some (.bH e,a)
  |none=>none
 | .fn f cs=>match pa H cs with
  |some (e,a)=>some (.fn f e,a)
  |none=>none
 | .cw _ _ _ _ _=>none
 | .cY=>none
def pa(H:Nat->Option E):List V->Option (List V×List dc)
 | []=>some ([],[])
 |v::a=>match ni H v,pa H a with
  |some (x,c),some (e,h)=>some (x::e,c++h)
  |_,_=>none
end
def Pf:List cq->List cq
 | .nat _::hs=>Pf hs
 |hs=>hs
def Hh(C:dH)(d:Option Tmp)(H:Nat->Option E)(a:List V)(e:List cq):i':=
 match a with
 | .fn f c::args=>match Pf (e.drop 1) with
  | .v r::e=>match pa H (args++c),r2 r with
   |some (h,i),true=>some (⟨e4 d r,[],[]⟩,i++[.p (jV C.P C.G f h r)],e)
   |_,_=>none
  |_=>none
 |_=>none
def G2(C:dH)(d:Option Tmp)(c:List V)(e:List cq):i':=
 match c with
 | .fn f a::args=>match e with
  | .v r::e=>match gv gr (gJ (args++a)) with
   |true=>some (⟨e4 d r,[],[]⟩,[.p (jV C.P C.G f (gJ (args++a)) r)],e)
   |false=>none
  | .nat _:: .v r::e=>some (⟨e4 d r,[],[]⟩,[.p (gv gr (gJ (args++a))=true),.p (jV C.P C.G f (gJ (args++a)) r)],e)
  |_=>none
 |_=>none
def Hr(C:dH)(d:Option Tmp)(h:List V)(H:Nat->Option E)(u:Nat->Bool)(l:List cq):i':=
 match h with
 | .fn f i::args=>match l with
  | .dC L a r out::l=>match tn L (gJ (args++i)),tZ L H L,Bs (L++a)&&AW u a&&Nat.beq out.length (L++a).length with
   |some c,some gF,true=>some (⟨e4 d (r.dp (L++a)),(L++a).zip (out.map λe=>some (e.dp (L++a))),(L++a).map λk=>(k,true)⟩,[.p (jb C.P C.G f gF c r out)],l)
   |_,_,_=>none
  |_=>none
 |_=>none
def Gu(C:dH)(t:TypeId)(H:Nat->Option E)(v:V)(n:List cq):i':=
 match dr C.b9 t with
 |none=>none
 |some i=>match i.u with
  | .slice e=>match dr C.b9 e with
   |none=>none
   |some j=>match v,n,ly (gQ j.z).cs with
    | .a8 k gen size l m,.rows R::n,some o=>match H k,(gQ j.z).val with
     |some (.arr r h a c),true=>some (⟨[],[(k,some (.arr r h a R))],[]⟩,[.q h gen,.q a size,.q o.length size,.p (l+m<=c.length/\R=c.take l++List.replicate m (o.map iP)++c.drop (l+m))],n)
     |_,_=>none
    |_,_,_=>none
  |_=>none
def GZ(C:dH)(d:Option Tmp)(t:TypeId)(H:Nat->Option E)(v w:V)(r:List cq):i':=
 match dr C.b9 t with
 |none=>none
 |some i=>match i.u with
  | .slice e=>match dr C.b9 e with
   |none=>none
   |some j=>match v,nC w,r with
    | .a8 k gen size n o,.t (.aA a),.rows R:: .nat m::r=>match H k,Nat.blt 0 j.size with
     |some (.arr x l c h),true=>some (⟨e4 d (.t (.int .i64 m)),[(k,some (.arr x l c R))],[]⟩,
       [.q l gen,.q c size,.q size j.size,.q m (Nat.min a.length o),.p (Rows j.size a),.p (n+o<=h.length/\R=h.take n++a.take m++h.drop (n+m))],r)
     |_,_=>none
    |_,_,_=>none
  |_=>none
def ac8:List cq->Bool
 | .dC _ _ _ _::_=>true
 |_=>false
def HM(C:dH)(o:Oper)(e:List V)(H:Nat->Option E)(u:Nat->Bool)(h:List cq):i':=
 match j2 C.nt o.dst with
 |false=>none
 |true=>match o.op with
  | .box _ _=>match e with
   | [v]=>match QL h with
    |true=>GN o.dst v h
    |false=>uk o.dst u v h
   |_=>none
  | .alloc t=>match dr C.b9 t with
   |some i=>uk o.dst u (gQ i.z) h
   |none=>none
  | .store t _ _=>match o.dst,e with
   |none,[a,v]=>match Gp C t H a v h with
    |some r=>some r
    |none=>F7 C t H a v h
   |_,_=>none
  | .makeSlice t _ _=>match e with
   | [v,w]=>GW C o.dst t u v w h
   |_=>none
  | .buildSlice t n l=>match Hb C o.dst t n (l.toList.map (·.1)) u e h with
   |some r=>some r
   |none=>GX C o.dst t n (l.toList.map (·.1)) u e h
  | .call c=>match c.callee with
   | .value _=>match ac8 h with
    |true=>Hr C o.dst e H u h
    |false=>match QL h with
     |true=>Hh C o.dst H e h
     |false=>G2 C o.dst e h
   | .builtin .append=>match c.args.toList,c.argTypes.toList,e with
    | [_,_],[t,m],[v,w]=>match FW C o.dst t m H v w h with
     |some r=>some r
     |none=>Fv C o.dst t m H v w h
    |_,_,_=>none
   | .builtin .clear=>match o.dst,c.args.toList,c.argTypes.toList,e with
    |none,[_],[t],[v]=>Gu C t H v h
    |_,_,_,_=>none
   | .builtin .copy=>match c.args.toList,c.argTypes.toList,e with
    | [_,_],[t,_],[v,w]=>GZ C o.dst t H v w h
    |_,_,_=>none
   | .builtin _=>match xL C.P C.b9 H o.op e h with
    |some (v,k,h)=>some (⟨e4 o.dst v,[],[]⟩,k,h)
    |none=>none
   |_=>none
  |_=>match xL C.P C.b9 H o.op e h with
   |some (v,k,h)=>some (⟨e4 o.dst v,[],[]⟩,k,h)
   |none=>none
theorem aaz{z:Value}{a:List T}(k:(gQ z).val=true)(l:ly (gQ z).cs=some a):z.cells.size=a.length/\ ∀(w:World) (X:Nat->Prop) (j:Nat) (u:Value) (x:T),z.cells[j]? =some u->(a.map iP)[j]? =some x->cP w X x u:=by
 have h:=fun(w:World) (X:Nat->Prop)=>(yU (⟨λ_=>none,λ_ _=>False⟩:Map) w X z).cells k;have i:=oJ l;refine⟨by rw[(h default λ_=>False).1,i,dn],λw X j u x m c=>?_⟩;rw[ev] at c;cases e:a[j]? with
 |none=>rw[e] at c;cases c
 |some y=>
  rw[e] at c;simp only[Option.map_some,Option.some.injEq] at c;subst c
  have:=(h w X).2 j (.t y) u (by rw[i,ev,e];rfl) m;cases this with
  |t _ _ n=>exact n.yu
section steps
variable {K:Ctx}{s:S}{d:Option Tmp}{ty:TypeId}{pos:String}{af:Array Edge}{g:Option (Nat×Bool)}
variable {t:TypeId}{u:TypeDesc}{z:Value}{size bytes gen:Nat}
theorem Uj(a:Array Value)(n i j:Nat)(h:i<n)(e:j<a.size):(Builtin.zeroCells a n).toList[i*a.size+j]? =a[j]? :=by
 have c:i*a.size+j<n*a.size:=by
  have:(i+1)*a.size<=n*a.size:=dx _ h
  grind
 have k:(i*a.size+j)%a.size=j:=by rw[Nat.mul_comm,Nat.mul_add_mod];exact Nat.mod_eq_of_lt e
 simp[Builtin.zeroCells,c,k,e]
theorem aaS(x:Operand)(E c h:Nat)(e e':TypeId)(rows:List (List T))(A:List T)(hx:s.get x= .a8 E gen size c h)(hH:s.H E=some (.arr e' gen size rows))(fc:K.P.underlying t=some (.slice e)){sz:Nat}(he:ca K.P e u z sz bytes)
  (bL:(gQ z).val=true) (eD:ly (gQ z).cs=some A) (L:A.length=size) (b8:c+h<=rows.length):
  dO K ⟨none,.call {callee:= .builtin .clear,args:= #[x],argTypes:= #[t]},ty,pos,af,g⟩ s {s with H:=aS s.H E (some (.arr e' gen size (rows.take c++List.replicate h (A.map iP)++rows.drop (c+h))))}:=by
 intro β a w next Q bR I
 have R:=bR.get x;rw[hx] at R;have M:=(bR.heap E _ hH).2;obtain⟨q,N⟩:=jl M;obtain⟨qE,U⟩:=aaz bL eD;unfold Oper.wp;cases h with
 |zero=>
  obtain⟨gf,cap,o⟩: ∃gf cap,a.eval x= .slice gf 0 cap:=by
   rcases e3 R N with ⟨cap,b,n,hn,o,_⟩|⟨_,_,_,o⟩
   ·exact⟨_,cap,o⟩
   exact⟨none,0,o⟩
  have y:(execOp a.eval ⟨none,.call {callee:= .builtin .clear,args:= #[x],argTypes:= #[t]},ty,pos,af,g⟩).run K.P w= .ok (.value (.tuple #[])) w:=by
   cases gf<;>simp[execOp,resolve,invoke,builtin,o,Builtin.clear_,run_underlying fc]
  rw[y]
  have:rows.take c++List.replicate 0 (A.map iP)++rows.drop (c+0)=rows:=aP
  refine I β _ _ ?_;rw[this];exact bR.yO E _ hH
 |succ h=>
  rcases e3 R N with ⟨cap,b,n,hn,o,jG,hw,hs,cy,po,hm⟩|⟨_,_,h0,_⟩
  ·subst jG;rcases M.2 with ⟨V,_⟩|⟨cd,C,V,h2,h3,h4,h5⟩
   ·rw[N] at V;cases V
   rw[N] at V;cases V;have F:z.cells.size=size:=by rw[qE,L]
   have p:(Builtin.zeroCells z.cells (h+1)).toList.length=(h+1)*size:=by rw[oU,size_zeroCells,F]
   have nx:c*size+(h+1)*size<=C.size:=by
    have:(c+(h+1))*size<=rows.length*size:=dx _ b8;rw[dG] at this;omega
   have r: ∀(i j:Nat) (u:Value),i<h+1->j<size->(Builtin.zeroCells z.cells (h+1)).toList[i*size+j]? =some u->z.cells[j]? =some u:=by
    intro i j u aE G hu;rw[<-F] at G hu
    rwa [Uj _ _ _ _ aE G] at hu
   have Y: ∀v∈(Builtin.zeroCells z.cells (h+1)).toList,v.oneCell'=true:=by
    intro v afc;obtain⟨k,I⟩:=kf.1 afc;have W:=(bU.1 I).1;rw[p] at W;have hp:0<size:=by
     rcases Nat.eq_zero_or_pos size with e0|e0
     ·rw[e0] at W;omega
     exact e0
    have hdiv:k / size<h+1:=(vQ hp).2 W;have Qq:k%size<size:=Nat.mod_lt _ hp;have pn:(Builtin.zeroCells z.cells (h+1)).toList[k / size*size+k%size]? =some v:=by rw[Nat.div_add_mod'];exact I
    have h9:=r _ _ _ hdiv Qq pn
    have:(A.map iP)[k%size]? =some (iP A[k%size]):=by rw[ev,bo O];rfl
    exact(bk.t (β:=β) _ _ (U w (λ_=>False) _ _ _ h9 this)).iR rfl
   have ps:=run_storeCells_at K.P b (c*size) e' (Builtin.zeroCells z.cells (h+1)).toList 0 C w h2 (by rw[p];omega) Y;simp only[Nat.add_zero] at ps;have y:(execOp a.eval ⟨none,.call {callee:= .builtin .clear,args:= #[x],argTypes:= #[t]},ty,pos,af,g⟩).run K.P w= .ok (.value (.tuple #[])) (w.setRow b (C.toList.take (c*size)++(Builtin.zeroCells z.cells (h+1)).toList++C.toList.drop (c*size+(Builtin.zeroCells z.cells (h+1)).toList.length)).toArray):=by
    simp[execOp,resolve,invoke,builtin,o,Builtin.clear_,run_underlying fc,he.tc,ps]
   rw[y];refine I β _ _ (NG bR E b e' rows _ C _ hH N h2 (by simp[p];omega) ?_ ?_ ?_)
   ·have:(rows.take c++List.replicate (h+1) (A.map iP)++rows.drop (c+(h+1))).length=rows.length:=bN
    rw[this];exact h3
   ·intro m l;rw[eh,eh] at l;rcases l with (l|l)|l
    ·exact h4 m (gb l)
    ·rw[(vR.1 l).2,dn];exact L
    exact h4 m (e6 l)
   intro i j m ix l0 aI a2 a3;have a3:(C.toList.take (c*size)++(Builtin.zeroCells z.cells (h+1)).toList++C.toList.drop (c*size+(Builtin.zeroCells z.cells (h+1)).toList.length))[i*size+j]? =some l0:=by simpa using a3
   rw[p] at a3;have B:(C.toList.take (c*size)).length=c*size:=bN
   by_cases c1:i<c
   ·rw[fy,jS bN,fS,a1 c1] at aI;have G:j<size:=by rw[<-h4 m (bE aI)];exact(bU.1 a2).1
    have hlt:i*size+j<c*size:=mF c1 G;rw[fy,jS O,fS,a1 hlt] at a3;exact .inl ⟨i,m,aI,a2,by simpa using a3⟩
   by_cases c2:i<c+(h+1)
   ·rw[jS bN,jt bN] at aI;have l:m=A.map iP:=by
     have:=bE aI;exact(vR.1 this).2
    subst l;have G:j<size:=by rw[<-L,<-dn (f:=iP)];exact(bU.1 a2).1
    have e1:i*size+j=c*size+((i-c)*size+j):=by rw[Nat.sub_mul];have:=dx size (O:c<=i);omega
    have hlt:(i-c)*size+j<(h+1)*size:=mF O G;rw[e1,jS (by rw[cV,B,p];omega),jt O,B,Nat.add_sub_cancel_left] at a3;exact .inr λw X=>U w X j _ _ (r _ _ _ O G a3) a2
   have D:(rows.take c++List.replicate (h+1) (A.map iP)).length=c+(h+1):=bN
   rw[jt O,D,gy,show c+(h+1)+(i-(c+(h+1)))=i by omega] at aI;have G:j<size:=by rw[<-h4 m (bE aI)];exact(bU.1 a2).1
   have ji:c*size+(h+1)*size<=i*size+j:=by
    have:=dx size (O:c+(h+1)<=i);rw[dG] at this;omega
   rw[jt (by rw[cV,B,p];omega),cV,B,p,gy,show c*size+(h+1)*size+(i*size+j-(c*size+(h+1)*size))=i*size+j by omega] at a3;exact .inl ⟨i,m,aI,a2,by simpa using a3⟩
  omega
theorem Xf(k h l c:Nat)(x y:Operand)(e:TypeId)(rows:List (List T))(cu: ∀i,d=some i->Nat.blt i K.nt=true)(hx:s.get x= .a8 k gen size 0 h)(hy:s.get y= .a8 k gen size l c)(hH:s.H k=some (.arr e gen size rows))
  (fc:K.P.underlying t=some (.slice e)) (he:ca K.P e u z size bytes) (hp:0<size) (h1:h+c<=rows.length) (h2:l+c<=rows.length):
  dO K ⟨d,.call {callee:= .builtin .append,args:= #[x,y],argTypes:= #[t,t]},ty,pos,af,g⟩ s
   (({s with H:=aS s.H k (some (.arr e gen size (rows.take h++(rows.drop l).take c++rows.drop (h+c))))}:S).put d (.a8 k gen size 0 (h+c))):=by
 intro β a w next Q bR hkk
 have I:=bR.get x;rw[hx] at I;have lQ:=bR.get y;rw[hy] at lQ;have hN:=(bR.heap k _ hH).2;have iL:=hN.1;obtain⟨q,M⟩:=jl hN;obtain⟨_,i,mu,hi2,kz,sw⟩:=id he;unfold Oper.wp;cases c with
 |zero=>
  obtain⟨gf,cap,N⟩: ∃gf cap,a.eval y= .slice gf 0 cap:=by
   rcases e3 lQ M with ⟨cap,b,n,hn,p,_⟩|⟨_,_,_,p⟩
   ·exact⟨_,cap,p⟩
   exact⟨none,0,p⟩
  have ae1:rows.take h++(rows.drop l).take 0++rows.drop (h+0)=rows:=aP
  have L:(execOp a.eval ⟨d,.call {callee:= .builtin .append,args:= #[x,y],argTypes:= #[t,t]},ty,pos,af,g⟩).run K.P w= .ok (.value (a.eval x)) w:=by
   rcases e3 I M with ⟨xF,b,n,hn,p,_,_,_,_,b8,_⟩|⟨_,_,_,p⟩
   ·cases gf<;>simp[execOp,resolve,invoke,builtin,p,N,Builtin.append_,run_underlying fc,sizeOf,typeInfo,mu,Builtin.lenOf,Builtin.firstCells,b8,storeCells,loadCells,loadCellsFrom]
   cases gf<;>simp[execOp,resolve,invoke,builtin,p,N,Builtin.append_,run_underlying fc,sizeOf,typeInfo,mu,Builtin.lenOf,Builtin.firstCells,loadCells,loadCellsFrom]
  rw[L];refine hkk β _ w ?_;have kZ:aS s.H k (some (E.arr e gen size rows))=s.H:=by
   funext j;by_cases F:j=k
   ·subst F;rw[bP,hH]
   rw[bQ _ _ _ _ F]
  rw[ae1,kZ];exact bR.put d cu I
 |succ c=>
  rcases e3 lQ M with ⟨adf,b,n,hn,N,jG,hw,hs,cy,po,hm⟩|⟨_,_,h0,_⟩
  ·subst jG;rcases e3 I M with ⟨A,fL,I7,ag3,p,ky,x5,U,sC,ahG,Cd⟩|⟨h0,_⟩
   ·cases ky;rcases hN.2 with ⟨g1,_⟩|⟨cd,B,g1,g2,g3,g4,g5⟩
    ·rw[M] at g1;cases g1
    rw[M] at g1;cases g1;have QD:B.size=I7:=by
     unfold World.shape? at U;rw[g2] at U;simp at U;exact U.2
    obtain⟨C,QF⟩: ∃C,C=(B.toList.drop (l*size)).take ((c+1)*size):=⟨_,rfl⟩
    have hle:(l+(c+1))*size<=B.size:=f' (dx _ h2) g3;rw[dG] at hle;have G:C.length=(c+1)*size:=by rw[QF];simp;omega
    have R: ∀j v,C[j]? =some v->B[l*size+j]? =some v/\j<(c+1)*size:=λj v bL=>by
     have F:=(bU.1 bL).1;rw[G] at F;rw[QF,fS,a1 F,gy] at bL;exact⟨by simpa using bL,F⟩
    have V: ∀r,r<rows.length-> ∃m,rows[r]? =some m/\m.length=size:=λr xW=>⟨_,bo xW,g4 _ (fJ xW)⟩
    have hcell: ∀j v,C[j]? =some v->w.cell? ((⟨b,l*size,none⟩:Addr).add j)=some v:=λj v bL=>by
     rw[jg];simp only[World.cell?,g2];exact(R j v bL).1
    have k1: ∀v,v∈C->v.oneCell'=true:=λv bL=>by
     obtain⟨j,F⟩:=kf.1 bL;obtain⟨h3,h4⟩:=R j v F;have Qq:j%size<size:=Nat.mod_lt _ hp;have hdiv:j / size<c+1:=(vQ hp).2 h4;obtain⟨m,Is,x0⟩:=V (l+j / size) O;have ad9:(l+j / size)*size+j%size=l*size+j:=by rw[dG,pV,Nat.div_add_mod']
     exact(g5 (l+j / size) (j%size) m m[j%size] v Is (bo O) (by rw[ad9];exact h3)).iR
    have nx:h*size+C.length<=B.size:=by
     rw[G,<-dG];exact f' (dx _ h1) g3
    have W:h+(c+1)<=A:=by
     have:(h+(c+1))*size<=A*size:=by
      rw[dt] at sC;rw[sC,<-QD];exact f' (dx _ h1) g3
     exact Nat.le_of_mul_le_mul_right this hp
    have X:=run_append_room (P:=K.P) w t ty e i fc mu b h A B g2 ⟨b,l*size,none⟩ (c+1) adf C (by rw[kz];exact G) hcell k1 W (by rw[kz];exact nx);rw[kz] at X;have L:(execOp a.eval ⟨d,.call {callee:= .builtin .append,args:= #[x,y],argTypes:= #[t,t]},ty,pos,af,g⟩).run K.P w= .ok (.value (.slice (some ⟨b,0,none⟩) (h+(c+1)) A)) (w.setRow b (B.toList.take (h*size)++C++B.toList.drop (h*size+C.length)).toArray):=by
     rw[ga] at p;simp[execOp,resolve,invoke,builtin,p,N,X]
    rw[L];have Y:(B.toList.take (h*size)).length=h*size:=bN
    have uS:(B.toList.take (h*size)++C++B.toList.drop (h*size+C.length)).toArray.size=B.size:=bN
    have f:(rows.take h).length=h:=by rw[cE];omega
    have D:((rows.drop l).take (c+1)).length=c+1:=by rw[cE,fz];omega
    have hrel:=NG bR k b e rows (rows.take h++(rows.drop l).take (c+1)++rows.drop (h+(c+1))) B _ hH M g2 uS ?_ ?_ ?_
    ·refine hkk β _ _ (hrel.put d cu ?_);have il:bk β (w.setRow b (B.toList.take (h*size)++C++B.toList.drop (h*size+C.length)).toArray) (own K β (aS s.H k (some (.arr e gen size (rows.take h++(rows.drop l).take (c+1)++rows.drop (h+(c+1))))))) (.a8 k gen size 0 (h+(c+1))) (.slice (some ⟨b,0*size,none⟩) (h+(c+1)) A):=by
      refine .a8 k gen size 0 _ A b I7 e iL M (by simpa using x5) ?_ sC W Cd;unfold World.shape?;rw[setRow_heap _ _ _ _ _ _ g2];simp only[uS,QD]
     rw[ga] at il;exact il
    ·rw[cV,cV,f,D,fz]
     have:h+(c+1)+(rows.length-(h+(c+1)))=rows.length:=O
     rw[this];exact g3
    ·intro m o;rw[eh,eh] at o;rcases o with (o|o)|o
     ·exact g4 m (gb o)
     ·exact g4 m (e6 (gb o))
     exact g4 m (e6 o)
    intro r j m ix l0 aI a2 a3;have a3:(B.toList.take (h*size)++C++B.toList.drop (h*size+C.length))[r*size+j]? =some l0:=by simpa using a3
    refine .inl ?_;by_cases c1:r<h
    ·rw[fy,jS O,fS,a1 c1] at aI;have F:j<size:=by rw[<-g4 m (bE aI)];exact(bU.1 a2).1
     have hlt:r*size+j<h*size:=mF c1 F;rw[fy,jS O,fS,a1 hlt] at a3;exact⟨r,m,aI,a2,by simpa using a3⟩
    by_cases c2:r<h+(c+1)
    ·rw[jS (by rw[cV];omega),jt O,f,fS,a1 O,gy] at aI;have F:j<size:=by rw[<-g4 m (bE aI)];exact(bU.1 a2).1
     have e1:r*size+j=h*size+((r-h)*size+j):=by rw[Nat.sub_mul];have:=dx size (O:h<=r);omega
     have hlt:(r-h)*size+j<(c+1)*size:=mF O F;rw[e1,jS (by rw[cV,Y,G];omega),jt O,Y,Nat.add_sub_cancel_left] at a3;have h9:=(R _ _ a3).1;exact⟨l+(r-h),m,aI,a2,by rw[dG,pV];exact h9⟩
    have aeA:(rows.take h++(rows.drop l).take (c+1)).length=h+(c+1):=by rw[cV,f,D]
    rw[jt O,aeA,gy,show h+(c+1)+(r-(h+(c+1)))=r by omega] at aI;have F:j<size:=by rw[<-g4 m (bE aI)];exact(bU.1 a2).1
    have ji:h*size+(c+1)*size<=r*size+j:=by
     have:=dx size (O:h+(c+1)<=r);rw[dG] at this;omega
    rw[jt (by rw[cV,Y,G];omega),cV,Y,G,gy,show h*size+(c+1)*size+(r*size+j-(h*size+(c+1)*size))=r*size+j by omega] at a3;exact⟨r,m,aI,a2,by simpa using a3⟩
   rw[M] at *; cases h0
  omega
theorem Vl(k W:Nat)(x y:Operand)(e j:TypeId)(p:List (List T))(v: ∀i,d=some i->Nat.blt i K.nt=true)(D:s.get x= .a8 k gen size 0 W)(E:dv (s.get y) (.t (.aA [])))(I:s.H k=some (.arr j gen size p))
  (X:K.P.underlying t=some (.slice e)) (M:ca K.P e u z size bytes) (N:0<size):
  dO K ⟨d,.call {callee:= .builtin .append,args:= #[x,y],argTypes:= #[t,t]},ty,pos,af,g⟩ s (s.put d (.a8 k gen size 0 W)):=by
 intro U a w next Q F G
 have h:=F.get x;rw[D] at h;have L:=E _ _ _ _ (F.get y);have R:=(F.heap k _ I).2;obtain⟨q,V⟩:=jl R;obtain⟨_,i,r,Y,kz,sw⟩:=id M;unfold Oper.wp;obtain⟨m,cap,A⟩: ∃m cap,a.eval y= .slice m 0 cap:=by
  rcases Fk L (Rows.nil size) N with (⟨B,_⟩|⟨b,o,c,_,B,_⟩)|⟨_,m,cap,B⟩
  ·exact⟨none,0,B⟩
  ·exact⟨_,c,B⟩
  exact⟨m,cap,B⟩
 have C:(execOp a.eval ⟨d,.call {callee:= .builtin .append,args:= #[x,y],argTypes:= #[t,t]},ty,pos,af,g⟩).run K.P w= .ok (.value (a.eval x)) w:=by
  rcases e3 h V with ⟨f,b,n,hn,l,_,_,_,_,b8,_⟩|⟨_,_,_,l⟩
  ·cases m<;>simp[execOp,resolve,invoke,builtin,l,A,Builtin.append_,run_underlying X,sizeOf,typeInfo,r,Builtin.lenOf,Builtin.firstCells,b8,storeCells,loadCells,loadCellsFrom]
  cases m<;>simp[execOp,resolve,invoke,builtin,l,A,Builtin.append_,run_underlying X,sizeOf,typeInfo,r,Builtin.lenOf,Builtin.firstCells,loadCells,loadCellsFrom]
 rw[C];exact G U _ w (F.put d v h)
theorem X6{size off:Nat}{a c:List (List T)}{us cs:List Value}(w:off+m<=a.length)(B:a.length*size<=us.length)(p:cs.length=m*size)(C:m<=c.length)(q: ∀e,e∈a->e.length=size)(l: ∀e,e∈c->e.length=size){R:T->Value->Prop}
  (r: ∀(i j:Nat) (e:List T) (x:T) (u:Value),a[i]? =some e->e[j]? =some x->us[i*size+j]? =some u->R x u)
  (y: ∀(i j:Nat) (e:List T) (x:T) (u:Value),c[i]? =some e->e[j]? =some x->cs[i*size+j]? =some u->R x u):
  ∀(i j:Nat) (e:List T) (x:T) (u:Value),(a.take off++c.take m++a.drop (off+m))[i]? =some e->e[j]? =some x->(us.take (off*size)++cs++us.drop (off*size+cs.length))[i*size+j]? =some u->R x u:=by
 have F:off*size+m*size<=a.length*size:=by rw[<-dG];exact dx _ w
 have A:=wg (us.take (off*size)) cs [] (rows:=a.take off) (news:=c.take m) (n:=off) (size:=size) (by rw[cE];omega) (by rw[cE];omega) (by rw[cE,p];congr 1;omega)
  (λe h=>q e (gb h)) (λe h=>l e (gb h)) (R:=R)
  (λk j e x u aI a2 a3=>by
   rw[fS] at aI a3;split at aI
   ·split at a3
    ·exact r k j e x u aI a2 a3
    cases a3
   cases aI)
  (λk j e x u aI a2 a3=>by
   rw[fS] at aI;split at aI
   ·exact y k j e x u aI a2 a3
   cases aI)
 have o:(us.drop (off*size+cs.length)).length=us.length-(off+m)*size:=by rw[fz,p,dG]
 have dm:=wg (us.take (off*size)++cs) ((us.drop (off*size+cs.length)).take ((a.length-(off+m))*size)) ((us.drop (off*size+cs.length)).drop ((a.length-(off+m))*size)) (rows:=a.take off++c.take m) (news:=a.drop (off+m)) (n:=off+m) (size:=size)
  (by rw[cV,cE,cE];omega) (by rw[cV,cE,p,dG];omega)
  (by
   rw[cE,o,fz]
   have:(a.length-(off+m))*size=a.length*size-(off+m)*size:=Nat.sub_mul _ _ _;omega)
  (λe h=>by
   rcases eh.1 h with h|h
   ·exact q e (gb h)
   exact l e (gb h)) (λe h=>q e (e6 h)) (R:=R) (λk j e x u aI a2 a3=>A k j e x u aI a2 (by simpa using a3))
  (λk j e x u aI a2 a3=>by
   rw[gy] at aI;rw[fS] at a3;split at a3
   ·rw[gy,p] at a3;refine r (off+m+k) j e x u aI a2 ?_;rw[dG,dG,pV];exact a3
   cases a3)
 intro i j e x u aI a2 a3;refine dm i j e x u aI a2 ?_;rw[fy _ (List.take _ _),rp];exact a3
theorem acj(x y:Operand)(E c len:Nat)(e e' lZ:TypeId)(rows k:List (List T))(cu: ∀i,d=some i->Nat.blt i K.nt=true)(hx:s.get x= .a8 E gen size c len)(hy:dv (s.get y) (.t (.aA k)))(hH:s.H E=some (.arr e' gen size rows))(fc:K.P.underlying t=some (.slice e))
  (he:ca K.P e u z size bytes) (hp:0<size) (I: ∀r,r∈k->r.length=size) (b8:c+len<=rows.length):
  dO K ⟨d,.call {callee:= .builtin .copy,args:= #[x,y],argTypes:= #[t,lZ]},ty,pos,af,g⟩ s
   (({s with H:=aS s.H E (some (.arr e' gen size (rows.take c++k.take (Nat.min k.length len)++rows.drop (c+Nat.min k.length len))))}:S).put d (.t (.int .i64 (Nat.min k.length len:Nat)))):=by
 intro β a w next Q bR hk
 have M:=bR.get x;rw[hx] at M;have lQ:=hy _ _ _ _ (bR.get y);have N:=(bR.heap E _ hH).2;obtain⟨q,U⟩:=jl N;obtain⟨_,i,mu,hi2,kz,sw⟩:=he;unfold Oper.wp;have afi: ∃C c1,a.eval x= .slice C len c1:=by
  rcases e3 M U with ⟨F,b,n,hn,B,_⟩|⟨_,_,h0,B⟩
  ·exact⟨_,F,B⟩
  subst h0;exact⟨none,0,B⟩
 have X:=Fk lQ I hp;have afk: ∃Js c2,a.eval y= .slice Js k.length c2:=by
  rcases X with (⟨A,f⟩|⟨b,c,F,L,A,_⟩)|⟨f,gf,F,A⟩
  ·subst f;exact⟨none,0,A⟩
  ·exact⟨_,_,A⟩
  subst f;exact⟨gf,F,A⟩
 obtain⟨m,hm⟩: ∃m,m=Nat.min k.length len:=⟨_,rfl⟩
 rw[<-hm] at hk;by_cases V:m=0
 ·subst V;obtain⟨C,c1,B⟩:=afi;obtain⟨Js,c2,A⟩:=afk;have G:(execOp a.eval ⟨d,.call {callee:= .builtin .copy,args:= #[x,y],argTypes:= #[t,lZ]},ty,pos,af,g⟩).run K.P w= .ok (.value (goInt ((0:Nat):Int))) w:=by
   cases C<;>cases Js<;>simp[execOp,resolve,invoke,builtin,B,A,Builtin.copy_,run_underlying fc,sizeOf,typeInfo,mu,Builtin.lenOf,Builtin.firstCells,<-hm,loadCells,loadCellsFrom,storeCells]
  rw[G]
  have:rows.take c++k.take 0++rows.drop (c+0)=rows:=aP
  rw[this] at hk;exact hk β _ _ ((bR.yO E _ hH).put d cu (.t _ _ (.int _ _)))
 have ahJ:m<=len:=by rw[hm];exact Nat.min_le_right _ _
 have o:m<=k.length:=by rw[hm];exact Nat.min_le_left _ _
 rcases X with (⟨_,f⟩|⟨cd,agx,B2,D,A,ov,x6,k4,hwr⟩)|⟨f,_⟩
 ·subst f;simp at o;exact bz o V
 ·rcases e3 M U with ⟨F,b,n,hn,B,jG,hw,hs,f,po,mv⟩|⟨_,_,h0,_⟩
  ·subst jG;rcases N.2 with ⟨h1,_⟩|⟨Y,L,h1,h2,h3,h4,h5⟩
   ·rw[U] at h1;cases h1
   rw[U] at h1;cases h1;have W:(D.take (m*size)).length=m*size:=by rw[cE,ov];have:=dx size o;omega
   have nx:c*size+m*size<=L.size:=by
    have:(c+m)*size<=rows.length*size:=dx _ O;rw[dG] at this;omega
   have Qn:=run_loadCells_list (P:=K.P) w ⟨cd,agx,none⟩ (D.take (m*size)) (λj y hj=>by
    rw[jg];rw[fS] at hj;split at hj
    ·exact x6 j y hj
    cases hj)
   have ps:=run_storeCells_at K.P b (c*size) e' (D.take (m*size)) 0 L w h2 (by rw[W];omega) λv bL=>k4 v (gb bL);simp only[Nat.add_zero] at ps;rw[W] at Qn;have G:(execOp a.eval ⟨d,.call {callee:= .builtin .copy,args:= #[x,y],argTypes:= #[t,lZ]},ty,pos,af,g⟩).run K.P w= .ok (.value (goInt (m:Int))) (w.setRow b (L.toList.take (c*size)++D.take (m*size)++L.toList.drop (c*size+(D.take (m*size)).length)).toArray):=by
    simp[execOp,resolve,invoke,builtin,B,A,Builtin.copy_,run_underlying fc,sizeOf,typeInfo,mu,kz,Builtin.lenOf,Builtin.firstCells,<-hm,Qn,ps]
   rw[G];have k3:(L.toList.take (c*size)++D.take (m*size)++L.toList.drop (c*size+(D.take (m*size)).length)).toArray.size=L.size:=by
    have h2: ∀l:List Value,l.toArray.size=l.length:=λl=>aP
    rw[h2];simp only[List.length_append,W,List.length_take,List.length_drop,Array.length_toList];omega
   have hlen:(rows.take c++k.take m++rows.drop (c+m)).length=rows.length:=bN
   have hb':own K β s.H b:= .inr ⟨E,by rw[hH];simp,.inl ⟨_,U⟩⟩;refine hk β _ _ (Rel.put (Rel.setRow bR E b (.inl ⟨_,U⟩) L e' h2 _ k3 (.arr e' gen size (rows.take c++k.take m++rows.drop (c+m))) (by rw[hH];simp)
    ⟨N.1,Or.inr ⟨b,_,U,setRow_heap _ _ _ _ _ _ h2,by rw[k3,hlen];exact h3,λr p=>?_,λi j r x u aI a2 a3=>?_⟩⟩) d cu (.t _ _ (.int _ _)))
   ·rw[eh,eh] at p;rcases p with (p|p)|p
    ·exact h4 r (gb p)
    ·exact I r (gb p)
    exact h4 r (e6 p)
   have h9:=X6 (off:=c) (m:=m) (us:=L.toList) (cs:=D.take (m*size)) O (by simpa using h3) W o h4 I (R:=λx u=>cP w (own K β s.H) x u) (λi j r x u cQ cd Y=>h5 i j r x u cQ cd (by simpa using Y))
    (λi j r x u cQ cd Y=>by
     rw[fS] at Y;split at Y
     ·exact hwr i j r x u cQ cd Y
     cases Y) i j r x u aI a2 (by simpa using a3)
   refine h9.mono ⟨rfl,rfl,rfl,aP,λkk _ hx=>setRow_other _ _ _ _ λe0=>hx ?_⟩ λ_ _ h=>h;subst e0;exact hb'
  omega
 subst f;simp at o;exact bz o V
end steps
end
variable {P:Program}{r:List Nat}{o:Oper}{b:S}{c l n M L:List cq}{k gen size:Nat}{e:cN}{e':E}{t:TypeId}{x y:Operand}{u:Nat->Bool}{m l9:List dc}{z:Value}
theorem b4.sub{H r:Nat->Option E}{U:List V}{v:V}(h:b4 P H o U v)(a: ∀k e,H k=some e->r k=some e):b4 P r o U v:=
 λβ w X c i l=>h β w X c (λid e m=>i id e (a id e m)) l
theorem dO.JL{K:Ctx}{s c:S}(h:dO K o s b)(m: ∀β a w,Rel K β b a w->Rel K β c a w):dO K o s c:=
 λβ a w next Q n p=>h β a w next Q n λe k l i=>p e k l (m e k l i)
theorem abg{K:Ctx}{β:Map}{H:Nat->Option E}{e:E}(l:H k=some e):own K β (aS H k (some e'))=own K β H:=by
 funext b;apply propext;constructor
 ·rintro(h|⟨id,i,a⟩)
  ·exact .inl h
  by_cases c:id=k
  ·subst c;exact .inr ⟨id,by rw[l];simp,a⟩
  rw[bQ _ _ _ _ c] at i;exact .inr ⟨id,i,a⟩
 rintro(h|⟨id,i,a⟩)
 ·exact .inl h
 by_cases c:id=k
 ·subst c;exact .inr ⟨id,by rw[bP];simp,a⟩
 exact .inr ⟨id,by rw[bQ _ _ _ _ c];exact i,a⟩
theorem Rel.Jk{K:Ctx}{β:Map}{s:S}{a:Act}{w:World}(h:Rel K β s a w)(k:Nat){e:E}(m:s.H k=some e)(p: ∀X,cC β w X k e->cC β w X k e'):Rel K β {s with H:=aS s.H k (some e')} a w:=by
 have ec:=abg (K:=K) (β:=β) (e':=e') m;refine {h with heap:= ?_,cW:= ?_}
 ·intro id l n;show _/\cC β w (own K β (aS s.H k (some e'))) id l;rw[ec];by_cases o:id=k
  ·subst o;have c:aS s.H id (some e') id=some l:=n;rw[bP] at c;cases c;obtain⟨q,r⟩:=h.heap id e m
   grind
  have c:aS s.H k (some e') id=some l:=n;rw[bQ _ _ _ _ o] at c;exact h.heap id l c
 intro i;show bk β w (own K β (aS s.H k (some e'))) _ _;rw[ec];exact h.cW i
section
variable {K:Ctx}{s:S}{d:Option Tmp}{ty:TypeId}{pos:String}{af:Array Edge}{g:Option (Nat×Bool)}
theorem NJ{f:FuncId}{c:Operand}{k:Array Operand}{l:Array TypeId}(m:List V)(args:List V)(r:V)
  (L:ig K.P f) (R:s.get c= .fn f m) (W: ∀i,d=some i->Nat.blt i K.nt=true) (b:fh (k.toList.map s.get++m) args) (j:gv gr args=true) (h:EF K.P K.G f args r):
  dO K ⟨d,.call {callee:= .value c,args:=k,argTypes:=l},ty,pos,af,g⟩ s (s.put d r):=by
 obtain⟨F,t,v,D⟩:=L;intro β a w next Q o I
 have y:F.name≠ "runtime.NumGoroutine" :=by simpa using v
 have z:F.body≠none:=by intro e;simp[e] at D
 obtain⟨us,A,B⟩:=(R▸o.get c).HN;have p:(execOp a.eval ⟨d,.call {callee:= .value c,args:=k,argTypes:=l},ty,pos,af,g⟩).run K.P w= .ok (.enter f (k.map a.eval++us)) w:=by
  simp[execOp,resolve,Deferred.ofValue,A,invoke,callFunc,t,y,z]
 unfold Oper.wp;rw[p,Oper.upon_enter];have n:=(dj.le ((o.oq k.toList).app B) b).I' j;have q:=h w (own K β s.H) _ o.B5 o.Jb n;have M:(List.map a.eval k.toList++us.toList).toArray=k.map a.eval++us:=by rw[<-vS,<-Array.toList_append]
 rw[M] at q;refine q.mono ?_;rintro e N ⟨u,rfl,x,T⟩;exact I β _ N ((o.grow x).put d W (T.any λ_ h=>h))
theorem ru{s:S}{d:Option Tmp}{v:V}{e:E}:cN.app ⟨e4 d v,[(k,some e)],[(k,true)]⟩ s=(s.new k e).put d v:=by cases d<;>rfl
theorem oN{s:S}{d:Option Tmp}{v:V}:cN.app ⟨e4 d v,[],[]⟩ s=s.put d v:=by cases d<;>rfl
theorem ZJ{v:V}(a: ∀k,u k=false->s.u k=false)(i:j2 K.nt d=true)(n:s.get x=v)
  (h:uk d u v l=some (e,m,c)):dO K ⟨d,.box t x,ty,pos,af,g⟩ s (e.app s):=by
 unfold uk at h;split at h
 ·split at h
  ·rename_i o p;cases h;rw[ru];exact acC _ (a _ o) x v (gR i) n p
  cases h
 cases h
theorem aaA{H:Nat->Option E}(x:Operand)(v:V)(i:List T)(n:v.val=true)(k:v.cs=i.map .t):Bz P H ⟨d,.box t x,ty,pos,af,g⟩ [v] (.aL i):=by
 intro β w X a _ o p;obtain⟨l,q⟩:=(show bk β w X v (a x) from p.1).cells n;have c:(execOp a ⟨d,.box t x,ty,pos,af,g⟩).run P w= .ok (.value (.pointer (some ⟨w.heap.size,0,none⟩))) (w.alloc (.cells (a x).cells t)):=by
  simp[execOp,Instr.box,newVar,newRow]
 refine⟨_,_,c,Ext.alloc _ _ _,?_⟩;refine .aL i w.heap.size 0 (λj=>(a x).cells.getD j undef) aP (λh=>by have:=o _ h;omega) (λj e=>?_) λj y m=>?_
 ·rw[dt,World.cell?_alloc_new]
  have:j<(a x).cells.size:=by rw[l,k];simpa using e
  simp[this]
 have e:j<(a x).cells.size:=by rw[l,k,dn];exact(bU.1 m).1
 have r:=q j (.t y) (a x).cells[j] (by rw[k,ev,m];rfl) (by simp[e]);cases r with
 |t _ _ h=>
  have:(a x).cells.getD j undef=(a x).cells[j]:=by simp[e]
  rw[this];exact h.mono (Ext.alloc X _ _) λ_ _ h=>h
theorem Yd{v:V}(a:j2 K.nt d=true)(i:s.get x=v)
  (h:GN d v l=some (e,m,c)):dO K ⟨d,.box t x,ty,pos,af,g⟩ s (e.app s):=by
 unfold GN at h;split at h
 ·split at h
  ·rename_i k n o;cases h;rw[oN];exact JT (vals:=[nC v]) (gR a) ⟨i▸tP _,trivial⟩ (aaA x _ k n (oJ o))
  cases h
 cases h
theorem WX{a:List (Nat×cf)}(n:dP K.P a){i:cf}(o:dr a t=some i)(p: ∀k,u k=false->s.u k=false)(q:j2 K.nt d=true)
  (h:uk d u (gQ i.z) l=some (e,m,c)):dO K ⟨d,.alloc t,ty,pos,af,g⟩ s (e.app s):=by
 unfold uk at h;split at h
 ·split at h
  ·rename_i r x;cases h;rw[ru];obtain⟨A,y,_⟩:=n _ _ o;exact aaT _ (p _ r) (gR q) y x
  cases h
 cases h
theorem Xl{l:List (Nat×cf)}(f:dP K.P l){C:dH}(j:C.b9=l){H:Nat->Option E}{a v:V}(L: ∀k e,H k=some e->s.H k=some e)
  (Q:s.get x=a) (R:s.get y=v) (h:Gp C t H a v n=some (e,m,c)) (p:cc m):dO K ⟨none,.store t x y,ty,pos,af,g⟩ s (e.app s):=by
 subst j;unfold Gp at h;split at h
 ·cases h
 rename_i i u;obtain⟨U,W,_⟩:=f _ _ u;split at h
 ·split at h
  ·rename_i cs q;split at h
   ·rename_i z A B D;cases h;exact aaR _ _ _ _ cs v Q R (L _ _ q) W z A B D
   cases h
  cases h
 ·split at h
  ·rename_i I b M o N r F n q G;split at h
   ·rename_i z A B;cases h;obtain⟨rfl,rfl,T,rfl,_⟩:=p;exact Xe x y _ _ _ I o r N Q (v:=nC v) (by rw[R];exact tP v) (oJ G) z (L _ _ q) W T (cL A) (dY B)
   cases h
  cases h
 cases h
theorem Ay{k i n:Nat}: ∀{m:List (Nat×Nat×V)},cc (t' k i n m)-> ∀e c l,(e,c,l)∈m->i<=c->c<i+n->e=k
 |h::m,a,e,c,l,hm,o,p=>by
  simp only[t'] at a;rcases dL.1 hm with rfl|hm
  ·have r:Nat.ble i c=true:=Nat.ble_eq_true_of_le o;have x:Nat.blt c (i+n)=true:=by simpa[Nat.blt_eq] using p
   simp only[r,x,Bool.and_self,cond_true] at a;exact a.1
  cases q:(Nat.ble i h.2.1&&Nat.blt h.2.1 (i+n)) with
  |true=>rw[q] at a;exact Ay a.2 e c l hm o p
  |false=>rw[q] at a;exact Ay a e c l hm o p
theorem Az{k off n:Nat}: ∀{l:List (Nat×Nat×V)},cc (ua k off n l)-> ∀e c i,(e,c,i)∈l->off<=c->c<off+n->e≠k
 | [],_,_,_,_,hm,_,_=>by cases hm
 |h::l,a,e,c,i,hm,m,o=>by
  unfold ua at a;rcases dL.1 hm with rfl|hm
  ·have q:Nat.ble off c=true:=Nat.ble_eq_true_of_le m;have r:Nat.blt c (off+n)=true:=by simpa[Nat.blt_eq] using o
   simp only[q,r,Bool.and_self,cond_true] at a;exact a.1
  cases p:(Nat.ble off h.2.1&&Nat.blt h.2.1 (off+n)) with
  |true=>rw[p] at a;exact Az a.2 e c i hm m o
  |false=>rw[p] at a;exact Az a e c i hm m o
theorem Wc{C:dH}(kx:dP K.P C.b9){H:Nat->Option E}{a v:V}{N:List cq}(hH: ∀k e,H k=some e->s.H k=some e)
  (B:s.get x=a) (hy:s.get y=v) (h:F7 C t H a v M=some (e,l9,N)) (F:cc l9):dO K ⟨none,.store t x y,ty,pos,af,g⟩ s (e.app s):=by
 unfold F7 at h;split at h
 ·rename_i i id gen sz k G r M T;obtain⟨aiA,U,_⟩:=kx _ _ T;split at h
  ·rename_i Y m L p ec hh;split at h
   ·rename_i l o ik;cases h;simp only[Bool.and_eq_true] at o;obtain⟨rfl,eD,bR,hq⟩:=F;obtain⟨lb,Q⟩:=cc.app hq;obtain⟨cQ,cd⟩:=zg ik lb;refine Uz x y _ _ _ Y m p r v ec B hy o.1 o.2.1 (hH _ _ hh) eD U (cL o.2.2.1) (by simpa[Nat.blt_eq] using o.2.2.2.2) bR (dY o.2.2.2.1) (Ay Q) λj hj=>?_;have hj':=bo (show j<(l.map (·.2)).length by simp[cQ];exact hj)
    grind
   cases h
  cases h
 ·rename_i i id gen sz k G q n r M T;obtain⟨aiA,U,_⟩:=kx _ _ T;split at h
  ·rename_i Y m L p ec hh;split at h
   ·rename_i l o ik;cases h;simp only[Bool.and_eq_true] at o;obtain⟨rfl,eD,bR,hq⟩:=F;obtain⟨lb,Q⟩:=cc.app hq;obtain⟨Q,qZ⟩:=cc.app Q;obtain⟨qZ,Q2⟩:=cc.app qZ;obtain⟨cQ,cd⟩:=zg ik lb;have R:=cL o.2.2.1;have W: ∀x,x∈(ec.drop q.toNat).take n->x∈ec:=λx B=>e6 (gb B);have A: ∀x,x∈ec->x∈ec.take q.toNat\/x∈(ec.drop q.toNat).take n\/x∈(ec.drop q.toNat).drop n:=λx B=>by
     rw[<-rp q.toNat ec,eh] at B;rcases B with h|h
     ·exact .inl h
     rw[<-rp n (ec.drop q.toNat),eh] at h
     grind
    refine TO x y _ _ _ Y m p r v ec B hy o.1 o.2.1 (hH _ _ hh) eD U R (by simpa[Nat.blt_eq] using o.2.2.2.2) bR (dY o.2.2.2.1) (λu D I hm=>?_) (λu D b hm=>?_) λj hj=>?_
    ·rcases eh.1 hm with c|c
     ·exact⟨I,gb c,λz=>bz z.1 (Az qZ u D I c z.2.1 z.2.2),λ_=>rfl⟩
     rcases eh.1 c with c|c
     ·obtain⟨b,aI,a2,a3⟩:=zR c;refine⟨b,W _ aI,λz=>?_,λz=>a3 λf=>z ⟨Ay Q u D b aI f.1 O,f.1,O⟩⟩
      grind
     exact⟨I,e6 (e6 c),λz=>bz z.1 (Az Q2 u D I c z.2.1 z.2.2),λ_=>rfl⟩
    ·rcases A _ hm with c|c|c
     ·exact⟨b,eh.2 (.inl c)⟩
     ·obtain⟨v1,h2⟩:=AD (off:=G) (vs:=v.cs) c
      grind
     exact⟨b,eh.2 (.inr (eh.2 (.inr c)))⟩
    have hj':=bo (show j<(l.map (·.2)).length by simp[cQ];exact hj)
    grind
   cases h
  cases h
 cases h
theorem dO.ag8{K:Ctx}{s c:S}(h:dO K o s b)(p:b.le K c):dO K o s c:=
 λβ a w next Q q r=>h β a w next Q q λi m n k=>let ⟨e,l⟩:=p i m n k;r e m n l
theorem L7{z:List T}: ∀{l:List (Nat×Nat)} {j m:Nat},w9 z l=true->tY l j=some m->z[j]? =some .fe
 |p::l,j,m,h,a=>by
  simp only[w9,Bool.and_eq_true] at h;simp only[tY] at a;cases c:Nat.beq p.1 j with
  |true=>
   rw[<-cL c];have e:=h.1;split at e
   ·assumption
   cases e
  |false=>rw[c] at a;exact L7 h.2 a
theorem XB{K:Ctx}{s:S}(k:Nat){f:TypeId}{e n:Nat}{z:List T}(l:List dN)(m:Nat)(F:s.H k=some (.arr f gen e (List.replicate n z)))(A:(U l m).ty=f)(G:(U l m).size=e)
  (I:w9 z (U l m).bm=true):s.le K {s with H:=aS s.H k (some (.a7 l m gen (List.replicate n (z.map iP)) []))}:=by
 intro β a w h;refine⟨_,h.drop k (.a7 l m gen (List.replicate n (z.map iP)) []) (by rw[F];simp) ?_⟩;have o:=(h.heap k _ F).2;subst A;subst G;refine⟨o.1,?_⟩;have p: ∀b,own K (β.drop k) (aS s.H k (some (.a7 l m gen (List.replicate n (z.map iP)) []))) b->own K β s.H b:=by
  rintro b (M|⟨id,A,G⟩)
  ·exact .inl M
  refine .inr ⟨id,λL=>?_,oM G⟩;by_cases t:id=k
  ·subst t;rw[F] at L;cases L
  rw[bQ _ _ _ _ t] at A;exact A L
 rcases o.2 with ⟨aI,a2⟩|⟨b,N,aI,a2,a3,a4,a5⟩
 ·have:n=0:=by simpa using a2
  subst this;exact .inl ⟨aI,rfl,λc q=>q.1 rfl⟩
 refine .inr ⟨b,N,λ_ _ _=>False,aI,a2,by simpa using a3,λQ P=>?_,λi j Q x u B v V=>Cell.of ?_,λ_ _ _ h=>h.elim,λ_ _ _ _ _ h=>h.elim,λc=>⟨λq=>bz rfl q.1,λ⟨_,_,q⟩=>q.elim⟩⟩
 ·obtain⟨Y,rfl⟩:=vR.1 P
  grind
 rw[tt] at B;split at B
 ·rename_i R;cases B;rw[ev] at v;obtain⟨y,D,rfl⟩:=Option.map_eq_some_iff.1 v;have r:=(a5 i j z y u (by rw[tt,a1 R]) D V).mono (Ext.refl _ _) λb _=>p b;cases W:(U l m).en j with
  |none=>exact .jh _ _ _ r.yu (λ_ h=>h)
  |some m2=>
   have:=L7 I W;rw[D] at this;cases this;cases r;exact .nil _ _ λ_ h=>h
 cases B
theorem YL{C:dH}(kx:dP K.P C.b9){v w:V}{N:List cq}(Q: ∀k,u k=false->s.u k=false)(cu:j2 K.nt d=true)
  (hx:s.get x=v) (hy:s.get y=w) (h:GW C d t u v w M=some (e,l9,N)) (W:cc l9):dO K ⟨d,.makeSlice t x y,ty,pos,af,g⟩ s (e.app s):=by
 unfold GW at h;split at h
 ·cases h
 rename_i i l;split at h
 ·rename_i o T;have fc:K.P.underlying t=some (.slice o):=(kx _ _ l).iw.2.2.2 o T;split at h
  ·cases h
  rename_i j f;obtain⟨qT,he,_⟩:=kx _ _ f;split at h
  ·rename_i n m k R M p r;split at h
   ·rename_i U D Y z;cases h;obtain⟨hnm,A,B,_⟩:=W;obtain⟨mw,aeH,rfl⟩:=pO A;have F:m=n:=O
    subst F;simp only[Bool.and_eq_true] at z;have c:=dY z.2;have I:m.toNat*j.bytes<=1000000000*200000:=nP O c;have bG:=lG B;have f:=OI (K:=K) (s:=s) (d:=d) (ty:=ty) (pos:=pos) (af:=af) (g:=g) k (Q _ U) x y o m.toNat p (gR cu) fc he (by rw[hx,<-bG]) (by rw[hy,<-bG]) (oJ r) D Y z.1 O O;refine f.JL λβ a w bR=>?_;have hk:((s.new k (.arr o 1 j.size (List.replicate m.toNat p))).put d (.a8 k 1 j.size 0 m.toNat)).H k=some (.arr o 1 j.size (List.replicate m.toNat p)):=by
     cases d<;>exact bP _ _ _
    have x0:=bR.Jk k hk λX=>aay;rw[ru,Dz]
    have: ∀G L:E,({((s.new k G).put d (.a8 k 1 j.size 0 m.toNat)) with H:=aS ((s.new k G).put d (.a8 k 1 j.size 0 m.toNat)).H k (some L)}:S)=(s.new k L).put d (.a8 k 1 j.size 0 m.toNat):=by
     intro G L;have Q: ∀a b:Option E,aS (aS s.H k a) k b=aS s.H k b:=by
      intro a b;funext i;by_cases l:i=k
      ·subst l;rw[bP,bP]
      rw[bQ _ _ _ _ l,bQ _ _ _ _ l,bQ _ _ _ _ l]
     cases d<;>simp only[S.put,S.new,Q]
    grind
   cases h
  ·rename_i n m k j9 fV q R M p r;split at h
   ·rename_i U D Y z;cases h;obtain⟨afa,k3,hnm,A,B,_⟩:=W;obtain⟨mw,aeH,rfl⟩:=pO A;have F:m=n:=O
    subst F;simp only[Bool.and_eq_true] at D z;have c:=dY z.2;have I:m.toNat*j.bytes<=1000000000*200000:=nP O c;have bG:=lG B;have f:=OI (K:=K) (s:=s) (d:=d) (ty:=ty) (pos:=pos) (af:=af) (g:=g) k (Q _ U) x y o m.toNat p (gR cu) fc he (by rw[hx,<-bG]) (by rw[hy,<-bG]) (oJ r) D.1 Y z.1 O O;have hk:((s.new k (.arr o 1 j.size (List.replicate m.toNat p))).put d (.a8 k 1 j.size 0 m.toNat)).H k=some (.arr o 1 j.size (List.replicate m.toNat p)):=by
     cases d<;>exact bP _ _ _
    have b8:=XB (K:=K) k fV q hk afa k3 D.2;rw[ru,Dz]
    have: ∀G L:E,({((s.new k G).put d (.a8 k 1 j.size 0 m.toNat)) with H:=aS ((s.new k G).put d (.a8 k 1 j.size 0 m.toNat)).H k (some L)}:S)=(s.new k L).put d (.a8 k 1 j.size 0 m.toNat):=by
     intro G L;have Q: ∀a b:Option E,aS (aS s.H k a) k b=aS s.H k b:=by
      intro a b;funext i;by_cases l:i=k
      ·subst l;rw[bP,bP]
      rw[bQ _ _ _ _ l,bQ _ _ _ _ l,bQ _ _ _ _ l]
     cases d<;>simp only[S.put,S.new,Q]
    rw[this] at b8;exact f.ag8 b8
   cases h
  cases h
 cases h
theorem We{C:dH}(F:dP K.P C.b9)(_hn0:C.c6=K.c6){G:TypeId}{H:Nat->Option E}{v w:V}{o:List cq}{Q:List dc}(D: ∀k e,H k=some e->s.H k=some e)(I:j2 K.nt d=true)
  (M:s.get x=v) (N:s.get y=w) (h:FW C d t G H v w L=some (e,Q,o)) (p:cc Q):dO K ⟨d,.call {callee:= .builtin .append,args:= #[x,y],argTypes:= #[t,G]},ty,pos,af,g⟩ s (e.app s):=by
 unfold FW at h;split at h
 ·cases h
 rename_i i T;split at h
 ·rename_i W q;have U:K.P.underlying t=some (.slice W):=(F _ _ T).iw.2.2.2 W q;split at h
  ·cases h
  rename_i j b;obtain⟨qT,Y,_⟩:=F _ _ b;split at h
  ·rename_i k gen f off len a R L hw;split at h
   ·rename_i e' l r c hh;split at h
    ·rename_i h1 n z;cases h;obtain⟨rfl,rfl,rfl,rfl,m,A,B,_⟩:=p;obtain⟨aY,rfl⟩:=wm m;simp only[Bool.and_eq_true] at n z;have e1:=cL z.1;have e2:=cL z.2;have mq:=cL h1;subst e1;subst e2;subst mq;have u:(c.length+a.length)*j.bytes<=1000000000*140000:=nP aY (dY n.2.2);have b:=YW (K:=K) (s:=s) (d:=d) (ty:=ty) (pos:=pos) (af:=af) (g:=g) (gen:=l) (size:=j.size) k x y e' c a (gR I) M (by rw[N,<-hw];exact tP w) (D _ _ hh) U Y n.1 n.2.1 A B O O;rw[cV]
     have: ∀v e,cN.app ⟨e4 d v,[(k,some e)],[]⟩ s=({s with H:=aS s.H k (some e)}:S).put d v:=by intro v e;cases d<;>rfl
     grind
    cases h
   cases h
  cases h
 cases h
theorem Vf{C:dH}(kx:dP K.P C.b9){lZ:TypeId}{H:Nat->Option E}{v w:V}{b f:List cq}(Q: ∀k e,H k=some e->s.H k=some e)(u:j2 K.nt d=true)
  (D:s.get x=v) (I:s.get y=w) (h:Fv C d t lZ H v w b=some (e,l9,f)) (p:cc l9):dO K ⟨d,.call {callee:= .builtin .append,args:= #[x,y],argTypes:= #[t,lZ]},ty,pos,af,g⟩ s (e.app s):=by
 unfold Fv at h;split at h
 ·cases h
 rename_i i aE;split at h
 ·rename_i M N;have T:K.P.underlying t=some (.slice M):=(kx _ _ aE).iw.2.2.2 M N;split at h
  ·cases h
  rename_i j U;obtain⟨qT,Y,_⟩:=kx _ _ U;split at h
  ·rename_i k gen z off len d' g3 z3 aiO n3 R b;split at h
   ·rename_i fV m c a ahf m3 adG c6 l ae3 A B;split at h
    ·rename_i n o W;cases h;obtain⟨rfl,rfl,rfl,rfl,uP,nv,rfl,rfl,h3,F,Is,x0,_⟩:=p;obtain⟨aY,rfl⟩:=wm F;simp only[Bool.and_eq_true] at n o W;have G:=cL n.1;have L:=cL n.2;have mq:=cL W.1;subst G;subst L;subst mq;have hmul:(a.length+(c6::l).length)*j.bytes<=1000000000*140000:=nP aY (dY o.2.2);have U:=Yv (K:=K) (s:=s) (d:=d) (ty:=ty) (pos:=pos) (af:=af) (g:=g) (gen:=c) (size:=j.size) k d' adG (l.length+1) x y M fV ahf m m3 a (c6::l) ae3 (gR u) D I (Q _ _ A) (Q _ _ B) h3 rfl T Y o.1 uP nv Is x0 (Nat.succ_pos _) W.2.1 W.2.2 O O;rw[cV]
     have: ∀v e,cN.app ⟨e4 d v,[(k,some e)],[]⟩ s=({s with H:=aS s.H k (some e)}:S).put d v:=by intro v e;cases d<;>rfl
     grind
    cases h
   ·rename_i e' c q a HL A B;split at h
    ·rename_i n o;cases h;obtain⟨rfl,rfl,rfl,rfl,r,hl1,sx,rfl,_⟩:=p;simp only[Bool.and_eq_true] at n o;have G:=cL n.1;have L:=cL n.2;have xI:=cL o.1;have xJ:=cL o.2.1;have hp:0<j.size:=by simpa[Nat.blt_eq] using o.2.2
     subst G;subst L;subst xI;subst xJ;subst r;have U:=Xf (K:=K) (s:=s) (d:=d) (ty:=ty) (pos:=pos) (af:=af) (g:=g) _ _ _ _ x y _ _ (gR u) D I (Q _ _ A) T Y hp hl1 sx
     have: ∀v e,cN.app ⟨e4 d v,[(d',some e)],[]⟩ s=({s with H:=aS s.H d' (some e)}:S).put d v:=by intro v e;cases d<;>rfl
     grind
    cases h
   cases h
  ·rename_i k gen z off len b;split at h
   ·rename_i e' c q a A;split at h
    ·rename_i n o;cases h;obtain⟨rfl,rfl,r,_⟩:=p;simp only[Bool.and_eq_true] at n;have G:=cL n.1;have L:=cL o;have hp:0<j.size:=by simpa[Nat.blt_eq] using n.2
     subst G;subst L;subst r;rw[oN];exact Vl (K:=K) (s:=s) (d:=d) (ty:=ty) (pos:=pos) (af:=af) (g:=g) _ _ x y _ _ _ (gR u) D (dv.of_eq I) (Q _ _ A) T Y hp
    cases h
   cases h
  cases h
 cases h
theorem ab8{v:V}{x:T}(h:yQ v=some x):v= .t x:=by
 cases v<;>simp[yQ] at h
 grind
theorem KW{d:dN}: ∀{j:Nat} {a:List V} {r:List T} {c:List (Nat×Nat×V)},wx d j a=some (r,c)->r.length=a.length/\
  (∀i b v,(i,b,v)∈c->i=0/\ ∃k,b=j+k/\a[k]? =some v)/\(∀(k:Nat) x,r[k]? =some x->(∃v,(0,j+k,v)∈c)\/(d.en (j+k)=none/\a[k]? =some (.t x)))
 |j,[],r,c,h=>by cases h;exact⟨rfl,λ_ _ _ h=>bz h List.not_mem_nil,λk x h=>by simp at h⟩
 |j,v::a,r,c,h=>by
  simp only[wx] at h;split at h
  ·cases h
  rename_i L n B;obtain⟨aI,a2,a3⟩:=KW B;have y: ∀i b c9,(i,b,c9)∈n->i=0/\ ∃k,b=j+k/\(v::a)[k]? =some c9:=λi b c9 hm=>by
   obtain⟨F,k,Q,G⟩:=a2 i b c9 hm;exact⟨F,k+1,O,by simpa using G⟩
  split at h
  ·rename_i R z;cases A:v.one with
   |false=>rw[A] at h;cases h
   |true=>
    rw[A] at h;cases h;refine⟨by simp[aI],λi b c9 hm=>?_,λk x l=>?_⟩
    ·rcases dL.1 hm with e|hm
     ·cases e;exact⟨rfl,0,rfl,rfl⟩
     exact y i b c9 hm
    cases k with
    |zero=>exact .inl ⟨v,eM⟩
    |succ k=>
     have:=a3 k x (by simpa using l);rw[show j+1+k=j+(k+1) by omega] at this;rcases this with ⟨c9,o⟩|⟨m,p⟩
     ·exact .inl ⟨c9,ew _ o⟩
     exact .inr ⟨m,by simpa using p⟩
  rename_i z;split at h
  ·rename_i W q;cases h;refine⟨by simp[aI],y,λk x l=>?_⟩;cases k with
   |zero=>simp at l;subst l;exact .inr ⟨z,by simp[ab8 q]⟩
   |succ k=>
    have:=a3 k x (by simpa using l);rw[show j+1+k=j+(k+1) by omega] at this;rcases this with m|⟨m,p⟩
    ·exact .inl m
    exact .inr ⟨m,by simpa using p⟩
  cases h
theorem ach{u:TypeDesc}{q:Nat}(k:Nat)(hk:s.u k=false)(o:Array (Nat×Operand))(e:TypeId)(n Y:List V)(A:List dN)(m:Nat)(r:List T)(N:List (Nat×Nat×V))(cu: ∀i,d=some i->Nat.blt i K.nt=true)(B:fh ((o.toList.map (·.2)).map s.get) n)
  (hu:K.P.underlying t=some (.slice e)) (he:ca K.P e u z size q) (F:Nat.beq o.toList.length n.length=true) (hp:Nat.blt 0 size=true) (G:Nat.ble (1*size) 16777216=true)
  (ik:kM (λi=>some (i*size,size)) (List.replicate (1*size) .cY) ((o.toList.map (·.1)).zip n)=some Y) (sF:wx (U A m) 0 Y=some (r,N)) (hcl:Y.length=size) (uP:(U A m).size=size) (nv:(U A m).ty=e):
  dO K ⟨d,.buildSlice t 1 o,ty,pos,af,g⟩ s ((s.new k (.a7 A m 1 [r] N)).put d (.a8 k 1 size 0 1)):=by
 have aeR:0<size:=by simpa[Nat.blt_eq] using hp
 obtain⟨yz,aiu,aiv⟩:=KW sF;intro β a w next Q bR hkk
 have H3:dj β w (own K β s.H) n ((o.toList.map (·.2)).map a.eval):=(bR.oq _).le B;have hz2:=vG a.eval o.toList;obtain⟨l,h1,h2⟩:=wj (β:=β) (w:=w) (X:=own K β s.H) (λi=>some (i*size,size)) (o.toList.map (·.1)) n _ (List.replicate (1*size) .cY)
  ((Array.range (1*size)).map ((if 1*size=0 then #[] else z.cells)[· %(if 1*size=0 then #[] else z.cells).size]!)) _ (Ax _ _ _ _ _ aP) H3 (by simpa using cL F) ik
 have L:(execOp a.eval ⟨d,.buildSlice t 1 o,ty,pos,af,g⟩).run K.P w= .ok (.value (.slice (some ⟨w.heap.size,0,none⟩) 1 1)) (w.alloc (.cells l e)):=by
  have R:(o.toList.map λx=>match x with|(i,x)=>(i,a.eval x))=(o.toList.map (·.1)).zip ((o.toList.map (·.2)).map a.eval):=by rw[<-hz2]
  have aY: ¬(1*size>2^24):=by have:=dY G;omega
  have h0: ¬1*size=0:=O
  simp only[execOp,Instr.buildSlice,Sem.run_bind,run_underlying hu,Result.andThen_ok,he.run_sizeOf,aY,if_false,Array.toList_map];simp only[h0,if_false] at h1;simp only[h0,if_false,Sem.run_pure,Sem.run_bind,he.tc,Result.andThen_ok];rw[R,h1];rfl
 unfold Oper.wp;rw[L];have p:l.size=size:=by
  have h:=h2.1
  grind
 have W:=bR.I9 k 1 hk l e (.a7 A m 1 [r] N) (λβ' h8 w' hw pq b jH=>⟨cJ _,Or.inr ⟨w.heap.size,l,λ_ _ _=>False,pq,by subst hw;rw[nv];exact jA _ _,by rw[p,uP];simp,λrow f=>by rw[nN.1 f,yz,hcl,uP],λi j row x y aI a2 a3=>by
  have aE:=(bU.1 aI).1;have Ic:i=0:=by simpa using aE
  subst Ic;simp at aI;subst aI;rw[ga,dt] at a3;refine⟨λv B=>⟨?_,λ_ h=>h⟩,λcy=>?_⟩
  ·obtain⟨_,bZ,D,R⟩:=aiu _ _ _ B;rw[dt] at D;subst D;exact b _ _ (h2.2 _ _ y R (by simpa using a3))
  rcases aiv j x a2 with ⟨v,B⟩|⟨D,R⟩
  ·rw[dt] at B;exact bz B (cy v)
  rw[dt] at D;rw[D];have h6:=b _ _ (h2.2 _ _ y R (by simpa using a3));cases h6 with|t _ _ h=>exact .jh _ _ _ h λ_ h=>h,λ_ _ _ h=>h.elim,λ_ _ _ _ _ h=>h.elim,λc=>⟨λh=>bz h (jH c),λ⟨_,_,h⟩=>h.elim⟩⟩⟩)
 have I:(w.alloc (.cells l e)).heap.size=w.heap.size+1:=World.size_alloc ..;have gq:(w.alloc (.cells l e)).shape? w.heap.size=some (e,l.size):=by unfold World.shape?;rw[jA]
 have M:bk (β.put k (some (some w.heap.size,1))) (w.alloc (.cells l e)) (own K (β.put k (some (some w.heap.size,1))) (s.new k (.a7 A m 1 [r] N)).H) (.a8 k 1 size 0 1)
   (.slice (some ⟨w.heap.size,0*size,none⟩) 1 1):= .a8 k 1 size 0 1 1 w.heap.size l.size e (cJ _) (bP _ _ _) (I▸oV _) gq (by rw[p];omega) (cJ _) (by unfold maxLen;omega)
 rw[ga] at M;exact hkk _ _ _ (W.put d cu M)
theorem Oq{n j:Nat}{v:V}: ∀{a:List V} {i:Nat},(n,j,v)∈qa i a->j=0/\ ∃k,n=i+k/\a[k]? =some v
 |x::a,i,h=>by
  simp only[qa] at h;rcases dL.1 h with h|h
  ·cases h;exact⟨rfl,0,rfl,rfl⟩
  obtain⟨e,k,l,c⟩:=Oq h;exact⟨e,k+1,O,by simpa using c⟩
theorem Oo{v:V}: ∀{vs:List V} {i k:Nat},vs[k]? =some v->(i+k,0,v)∈qa i vs
 |x::vs,i,0,h=>by
  simp at h;subst h;exact eM
 |x::vs,i,k+1,h=>by have:=Oo (i:=i+1) (k:=k) (vs:=vs) (by simpa using h);rw[show i+1+k=i+(k+1) by omega] at this;exact ew _ this
theorem aci{u:TypeDesc}{l B:Nat}(k:Nat)(hk:s.u k=false)(n:Nat)(q:Array (Nat×Operand))(e:TypeId)(p F:List V)(G:List dN)(m:Nat)(cu: ∀i,d=some i->Nat.blt i K.nt=true)(N:fh ((q.toList.map (·.2)).map s.get) p)
  (hu:K.P.underlying t=some (.slice e)) (he:ca K.P e u z l B) (L:Nat.beq q.toList.length p.length=true) (cy:Nat.blt 0 n=true) (T:l=1) (R:Nat.ble (n*l) 16777216=true)
  (ik:kM (λi=>some (i*l,l)) (List.replicate (n*l) .cY) ((q.toList.map (·.1)).zip p)=some F) (hcl:F.length=n) (Y:(U G m).size=1) (nv:(U G m).ty=e):
  dO K ⟨d,.buildSlice t n q,ty,pos,af,g⟩ s ((s.new k (.a7 G m 1 (List.replicate n [.aA []]) (qa 0 F))).put d (.a8 k 1 1 0 n)):=by
 subst T;have W:0<n:=by simpa[Nat.blt_eq] using cy
 intro β a w next Q bR hkk
 have H3:dj β w (own K β s.H) p ((q.toList.map (·.2)).map a.eval):=(bR.oq _).le N;have hz2:=vG a.eval q.toList;obtain⟨o,h1,h2⟩:=wj (β:=β) (w:=w) (X:=own K β s.H) (λi=>some (i*1,1)) (q.toList.map (·.1)) p _ (List.replicate (n*1) .cY)
  ((Array.range (n*1)).map ((if n*1=0 then #[] else z.cells)[· %(if n*1=0 then #[] else z.cells).size]!)) _ (Ax _ _ _ _ _ aP) H3 (by simpa using cL L) ik
 have ahv:=dY R;have b:(execOp a.eval ⟨d,.buildSlice t n q,ty,pos,af,g⟩).run K.P w= .ok (.value (.slice (some ⟨w.heap.size,0,none⟩) n n)) (w.alloc (.cells o e)):=by
  have e2:(q.toList.map λx=>match x with|(i,x)=>(i,a.eval x))=(q.toList.map (·.1)).zip ((q.toList.map (·.2)).map a.eval):=by rw[<-hz2]
  have aY: ¬(n*1>2^24):=O
  have h0: ¬n*1=0:=O
  simp only[execOp,Instr.buildSlice,Sem.run_bind,run_underlying hu,Result.andThen_ok,he.run_sizeOf,aY,if_false,Array.toList_map];simp only[h0,if_false] at h1;simp only[h0,if_false,Sem.run_pure,Sem.run_bind,he.tc,Result.andThen_ok];rw[e2,h1];rfl
 unfold Oper.wp;rw[b];have r:o.size=n:=by
  have h:=h2.1;rw[oU] at h;omega
 have f:=bR.I9 k 1 hk o e (.a7 G m 1 (List.replicate n [.aA []]) (qa 0 F)) (λβ' h8 w' hw W k2 jH=>⟨cJ _,Or.inr ⟨w.heap.size,o,λ_ _ _=>False,W,by subst hw;rw[nv];exact jA _ _,by rw[r,Y];simp,λD A=>by rw[(vR.1 A).2,Y];rfl,λi j D x y aI a2 a3=>by
  have aE:=(bU.1 aI).1;rw[Dz] at aE;have A:D=[.aA []]:=(vR.1 (bE aI)).2;subst A;have hj0:j=0:=by
   have:=(bU.1 a2).1;simpa using this
  subst hj0;rw[Y,Nat.mul_one,rm] at a3;refine⟨λv N=>⟨?_,λ_ h=>h⟩,λsC=>?_⟩
  ·obtain⟨_,bZ,e1,e2⟩:=Oq N;rw[dt] at e1;subst e1;exact k2 _ _ (h2.2 _ _ y e2 (by simpa using a3))
  have bG:=bo (O:i<F.length)
  have:=Oo (i:=0) bG;rw[dt] at this;exact bz this (sC _),λ_ _ _ h=>h.elim,λ_ _ _ _ _ h=>h.elim,λc=>⟨λh=>bz h (jH c),λ⟨_,_,h⟩=>h.elim⟩⟩⟩)
 have I:(w.alloc (.cells o e)).heap.size=w.heap.size+1:=World.size_alloc ..;have gq:(w.alloc (.cells o e)).shape? w.heap.size=some (e,o.size):=by unfold World.shape?;rw[jA]
 have M:bk (β.put k (some (some w.heap.size,1))) (w.alloc (.cells o e)) (own K (β.put k (some (some w.heap.size,1))) (s.new k (.a7 G m 1 (List.replicate n [.aA []]) (qa 0 F))).H) (.a8 k 1 1 0 n)
   (.slice (some ⟨w.heap.size,0*1,none⟩) n n):= .a8 k 1 1 0 n n w.heap.size o.size e (cJ _) (bP _ _ _) (I▸oV _) gq (by rw[r];omega) (cJ _) (by unfold maxLen;omega)
 rw[ga] at M;exact hkk _ _ _ (f.put d cu M)
theorem acB{u:TypeDesc}{F:Nat}(k:Nat)(hk:s.u k=false)(n:Nat)(p:Array (Nat×Operand))(e:TypeId)(o:List V)(c:List (List T))(cu: ∀i,d=some i->Nat.blt i K.nt=true)(bL:fh ((p.toList.map (·.2)).map s.get) o)
  (hu:K.P.underlying t=some (.slice e)) (he:ca K.P e u z size F) (R:Nat.beq p.toList.length o.length=true)
  (cy:c.length=n) (hp:Nat.blt 0 size=true) (G: ∀l,l∈c->l.length=size) (B:Nat.ble (n*size) 16777216=true)
  (ik:kM (λi=>some (i*size,size)) (List.replicate (n*size) .cY) ((p.toList.map (·.1)).zip o)=some (c.flatten.map .t)):
  dO K ⟨d,.buildSlice t n p,ty,pos,af,g⟩ s ((s.new k (.arr e 1 size c)).put d (.a8 k 1 size 0 c.length)):=by
 subst cy;have aeR:0<size:=by simpa[Nat.blt_eq] using hp
 intro β a w next Q bR U
 have Y:dj β w (own K β s.H) o ((p.toList.map (·.2)).map a.eval):=(bR.oq _).le bL;have hz2:=vG a.eval p.toList;obtain⟨m,A,L⟩:=wj (β:=β) (w:=w) (X:=own K β s.H) (λi=>some (i*size,size)) (p.toList.map (·.1)) o _ (List.replicate (c.length*size) .cY)
  ((Array.range (c.length*size)).map ((if c.length*size=0 then #[] else z.cells)[· %(if c.length*size=0 then #[] else z.cells).size]!)) _ (Ax _ _ _ _ _ aP) Y (by simpa using cL R) ik
 have W:(execOp a.eval ⟨d,.buildSlice t c.length p,ty,pos,af,g⟩).run K.P w= .ok (.value (.slice (some ⟨w.heap.size,0,none⟩) c.length c.length)) (w.alloc (.cells m e)):=by
  have e2:(p.toList.map λx=>match x with|(i,x)=>(i,a.eval x))=(p.toList.map (·.1)).zip ((p.toList.map (·.2)).map a.eval):=by rw[<-hz2]
  have aY: ¬(c.length*size>2^24):=by have:=dY B;omega
  simp only[execOp,Instr.buildSlice,Sem.run_bind,run_underlying hu,Result.andThen_ok,he.run_sizeOf,aY,if_false,Array.toList_map];by_cases N:c.length*size=0
  ·simp only[N,if_true] at A;simp only[N,if_true,Sem.run_pure,Sem.run_bind,Result.andThen_ok];rw[e2,A];rfl
  simp only[N,if_false] at A;simp only[N,if_false,Sem.run_pure,Sem.run_bind,he.tc,Result.andThen_ok];rw[e2,A];rfl
 unfold Oper.wp;rw[W];have q:m.size=c.flatten.length:=by
  have h:=L.1
  grind
 have f:c.flatten.length=c.length*size:=by
  rw[List.length_flatten]
  have:c.map List.length=List.replicate c.length size:=List.eq_replicate_iff.2 ⟨aP,λb aY=>by obtain⟨r,bR,rfl⟩:=ey.1 aY;exact G r bR⟩;rw[this];simp
 have v: ∀(c:List (List T)),(∀l,l∈c->l.length=size)-> ∀(i j:Nat) (l:List T) (x:T),c[i]? =some l->l[j]? =some x->c.flatten[i*size+j]? =some x:=by
  intro c;induction c with
  |nil=>intro _ i j l x h _;simp at h
  |cons r c my=>
   intro hs i j l x A L;have bR:=hs r aP;rw[List.flatten_cons];cases i with
   |zero=>
    simp at A;subst A
    have:=(bU.1 L).1;rw[ga,dt,jS this];exact L
   |succ i=>
    simp at A;rw[jt (by rw[bR,dG];omega)];rw[show(i+1)*size+j-r.length=i*size+j by rw[bR,dG];omega];exact my (λl h=>hs l (by simp[h])) i j l x A L
 have D:=bR.new k 1 hk m e (.arr e 1 size c) (λβ' h8 w' hw pq k2=>⟨cJ _,Or.inr ⟨w.heap.size,m,pq,by subst hw;exact jA _ _,by rw[q,f];exact cJ _,G,λi j l x y aI a2 a3=>by
  have h5:=v c G i j l x aI a2;have h6:=L.2 (i*size+j) (.t x) y (by rw[ev,h5];rfl) (by simpa using a3);have lL:=k2 _ _ h6;cases lL with|t _ _ h=>exact h⟩⟩)
 have I:(w.alloc (.cells m e)).heap.size=w.heap.size+1:=World.size_alloc ..;have gq:(w.alloc (.cells m e)).shape? w.heap.size=some (e,m.size):=by unfold World.shape?;rw[jA]
 have M:bk (β.put k (some (some w.heap.size,1))) (w.alloc (.cells m e)) (own K (β.put k (some (some w.heap.size,1))) (s.new k (.arr e 1 size c)).H) (.a8 k 1 size 0 c.length)
   (.slice (some ⟨w.heap.size,0*size,none⟩) c.length c.length):= .a8 k 1 size 0 c.length c.length w.heap.size m.size e (cJ _) (bP _ _ _) (I▸oV _) gq (by rw[q,f];simp) (cJ _)
    (by
     have aY:=dY B;unfold maxLen
     have:c.length*1<=c.length*size:=Nat.mul_le_mul_left _ O;omega)
 rw[ga] at M;exact U _ _ _ (D.put d cu M)
theorem ZC{C:dH}(v:dP K.P C.b9){n:Nat}{o:Array (Nat×Operand)}{a:List V}{D Q:List cq}{I:List dc}(M: ∀k,u k=false->s.u k=false)(F:j2 K.nt d=true)
  (R:a=(o.toList.map (·.2)).map s.get) (h:Hb C d t n (o.toList.map (·.1)) u a D=some (e,I,Q)) (W:cc I):dO K ⟨d,.buildSlice t n o,ty,pos,af,g⟩ s (e.app s):=by
 unfold Hb at h;split at h
 ·cases h
 rename_i i N;split at h
 ·rename_i q b;have G:K.P.underlying t=some (.slice q):=(v _ _ N).iw.2.2.2 q b;split at h
  ·cases h
  rename_i j T;obtain⟨qT,L,_⟩:=v _ _ T;split at h
  ·rename_i k D f;split at h
   ·rename_i p;cases h
    have:o= #[]:=by
     have:o.toList=[]:=by simpa using f
     grind
    subst this;rw[ru];exact YV k (M _ p) q (gR F) G L
   cases h
  ·split at h
   ·cases h
   rename_i cs l;split at h
   ·cases h
   rename_i r m;split at h
   ·rename_i U p x y Y;cases h;have c:=cL p;obtain⟨z,A,B⟩:=A2 j.size _ r c;rw[ru];refine acB _ (M _ U) _ o q (gJ a) _ (gR F) (by rw[R];exact lX _) G L (by rw[sV];simpa using x) z Y A y (by rw[l,B,oJ m])
   cases h
  ·split at h
   ·cases h
   rename_i cs l;split at h
   ·cases h
   rename_i r m;split at h
   ·rename_i p x y;cases h;have c:=cL p;obtain⟨z,A,B⟩:=A2 j.size _ r c;rw[oN];rw[<-W.1];refine JT (vals:=gJ a) (gR F) ?_ (Kc _ o q (gJ a) _ G L ?_ (by simp[z]) A y (by rw[l,B,oJ m]))
    ·rw[R];simp only[Op.operands];exact lX _
    rw[sV];simpa using x
   cases h
  ·split at h
   ·cases h
   rename_i cs l;split at h
   ·cases h
   rename_i r m;split at h
   ·rename_i p x y;cases h;have c:=cL p;obtain⟨z,A,B⟩:=A2 j.size _ r c;rw[oN];refine JT (vals:=gJ a) (gR F) ?_ (Kc _ o q (gJ a) _ G L ?_ (by simp[z]) A y (by rw[l,B,oJ m]))
    ·rw[R];simp only[Op.operands];exact lX _
    rw[sV];simpa using x
   cases h
  cases h
 cases h
theorem YM{C:dH}(Q:dP K.P C.b9){n:Nat}{a:Array (Nat×Operand)}{Y:List V}{o:List dc}(R: ∀k,u k=false->s.u k=false)(W:j2 K.nt d=true)
  (b:Y=(a.toList.map (·.2)).map s.get) (h:GX C d t n (a.toList.map (·.1)) u Y c=some (e,o,l)):dO K ⟨d,.buildSlice t n a,ty,pos,af,g⟩ s (e.app s):=by
 unfold GX at h;split at h
 ·cases h
 rename_i i D;split at h
 ·rename_i y A;have f:K.P.underlying t=some (.slice y):=(Q _ _ D).iw.2.2.2 y A;split at h
  ·cases h
  rename_i j I;obtain⟨T,v,_⟩:=Q _ _ I;split at h
  ·rename_i k z m c;split at h
   ·cases h
   rename_i cs q;split at h
   ·cases h
   rename_i r M B;split at h
   ·rename_i F x p G L;cases h;simp only[Bool.and_eq_true] at x p;rw[ru];exact ach k (R _ F) a y (uu ((U z m).en 0) Y) cs z m r M (gR W) (by rw[b];exact abi _ _) f v (by rw[Vv];simpa using p.1) L G q B (cL x.1) (cL x.2) (cL p.2)
   cases h
  ·rename_i k z m c _;split at h
   ·cases h
   rename_i cs q;split at h
   ·rename_i F x p G L;cases h;simp only[Bool.and_eq_true] at x p;have N:=cL x.1;rw[ru];exact aci k (R _ F) _ a y (gJ Y) cs z m (gR W) (by rw[b];exact lX _) f v (by rw[sV];simpa using p.1) L N G q (cL x.2.1) (cL p.2.2) (cL p.2.1)
   cases h
  cases h
 cases h
theorem YQ{C:dH}(y:C.P=K.P)(z:C.G=K.G){c:Operand}{a:Array Operand}{k:Array TypeId}{U:List V}(A:j2 K.nt d=true)
  (q:U=s.get c::a.toList.map s.get) (h:G2 C d U n=some (e,m,l)) (r:cc m):dO K ⟨d,.call {callee:= .value c,args:=a,argTypes:=k},ty,pos,af,g⟩ s (e.app s):=by
 unfold G2 at h;split at h
 ·rename_i f i args;split at h
  ·split at h
   ·rename_i o;cases h;rw[oN];obtain⟨⟨x,p⟩,_⟩:=r;rw[y] at x p;rw[z] at p;simp only[List.cons.injEq] at q;exact NJ i _ _ x q.1.symm (gR A) (by rw[<-q.2];exact lX _) o p
   cases h
  ·cases h;rw[oN];obtain⟨o,⟨x,p⟩,_⟩:=r;rw[y] at x p;rw[z] at p;simp only[List.cons.injEq] at q;exact NJ i _ _ x q.1.symm (gR A) (by rw[<-q.2];exact lX _) o p
  cases h
 cases h
mutual
theorem Nv{T G:Map}{w a:World}{X A:Nat->Prop}: ∀{v:V} {u:Value},r2 v=true->bk T w X v u->bk G a A v u
 | .t (.int _ _),u,_,h=>by rw[dy h];exact .t _ _ (.int _ _)
 | .t (.bool _),u,_,h=>by rw[nA h];exact .t _ _ (.bool _)
 | .t (.str _),u,_,h=>by rw[hb h];exact .t _ _ (.str _)
 | .agg cs,u,e,h=>by
  simp only[r2] at e;cases h with|agg _ l m h=>exact .agg _ l m (λi c u k n=>Ft e i c u k (h i c u k n))
 | .bH cs,u,e,h=>by
  simp only[r2] at e;cases h with|bH _ l m h=>exact .bH _ l m (λi c u k n=>Ft e i c u k (h i c u k n))
 | .t (.aA _),_,e,_| .t .fe,_,e,_| .t .gV,_,e,_| .t .gw,_,e,_| .t .nB,_,e,_| .t .err,_,e,_=>by simp[r2] at e
 | .ref _ _,_,e,_| .aL _,_,e,_| .a8 _ _ _ _ _,_,e,_| .cw _ _ _ _ _,_,e,_| .fn _ _,_,e,_| .cY,_,e,_=>by simp[r2] at e
theorem Ft{T G:Map}{w a:World}{X A:Nat->Prop}: ∀{cs:List V},uj cs=true-> ∀(i:Nat) c u,cs[i]? =some c->bk T w X c u->bk G a A c u
 | [],_,_,_,_,h,_=>by simp at h
 |c::cs,e,0,l,u,k,h=>by
  simp only[uj,Bool.and_eq_true] at e;simp at k;subst k;exact Nv e.1 h
 |c::cs,e,i+1,l,u,k,h=>by simp only[uj,Bool.and_eq_true] at e;exact Ft e.2 i l u (by simpa using k) h
end
theorem cC.read{β:Map}{w:World}{X A:Nat->Prop}{a:List (List T)}{u:Value}(h:cC β w X k (.arr t gen size a))(F:bk β w X (.a8 k gen size 0 a.length) u)
  (G: ∀b,A b->X b) (L: ∀b,At β k b-> ¬A b):cP w A (.aA a) u:=by
 obtain⟨q,r⟩:=jl h;rcases e3 F r with ⟨y,b,n,Q,rfl,m,R,M,W,f,N⟩|⟨m,_,v,rfl⟩
 ·subst m;rcases h.2 with ⟨o,z⟩|⟨P,l,o,z,U,B,D⟩
  ·rw[r] at o;cases o
  rw[r] at o;cases o;rw[ga];refine .aA a b 0 size y (λi j=>l.getD (i*size+j) undef) R (L b (.inl ⟨_,r⟩)) f B (λi j aE I=>?_) λi j p x aI a2=>?_
  ·have c:i*size+j<l.size:=by
    have:(i+1)*size<=a.length*size:=dx _ aE;rw[dG] at this;omega
   rw[dt];simp[World.cell?,z,c]
  have aE:=(bU.1 aI).1;have I:j<size:=by rw[<-B p (bE aI)];exact(bU.1 a2).1
  have c:i*size+j<l.size:=by
   have:(i+1)*size<=a.length*size:=dx _ aE
   grind
  have:=D i j p x l[i*size+j] aI a2 (by simp[c]);have e:l.getD (i*size+j) undef=l[i*size+j]:=by simp[c]
  rw[e];exact this.mono (Ext.refl _ _) λb _=>G b
 have:a=[]:=List.length_eq_zero_iff.1 v;subst this;exact .fI _ _
theorem cC.agK{β:Map}{w:World}{X L:Nat->Prop}{l:List dN}{m:Nat}{a:List (List T)}{u:Value}(h:cC β w X k (.a7 l m gen a []))(t:bk β w X (.a8 k gen (U l m).size 0 a.length) u)
  (v: ∀b,L b->X b) (R: ∀b,At β k b-> ¬L b):cP w L (.aA a) u:=by
 obtain⟨q,F⟩:=tG h;rcases e3 t F with ⟨Q,b,n,D,rfl,o,I,hs,M,N,hm⟩|⟨o,_,P,rfl⟩
 ·subst o;rcases h.2 with ⟨p,W⟩|⟨fL,r,B,p,W,h3,f,V,_,_,Y⟩
  ·rw[F] at p;cases p
  rw[F] at p;cases p;rw[ga];have y: ∀i j,i<a.length->j<(U l m).size->i*(U l m).size+j<r.size:=λi j aE G=>by
   have:(i+1)*(U l m).size<=a.length*(U l m).size:=dx _ aE
   grind
  refine .aA a b 0 (U l m).size Q (λi j=>r.getD (i*(U l m).size+j) undef) I (R b (.inl ⟨_,F⟩)) N f (λi j aE G=>?_) λi j z x aI a2=>?_
  ·have:=y i j aE G;rw[dt];simp[World.cell?,W,this]
  have aE:=(bU.1 aI).1;have G:j<(U l m).size:=by rw[<-f z (bE aI)];exact(bU.1 a2).1
  have A:=y i j aE G
  have:=(V i j z x r[i*(U l m).size+j] aI a2 (by simp[A])).none;have e:r.getD (i*(U l m).size+j) undef=r[i*(U l m).size+j]:=by simp[A]
  rw[e];exact this.yP v λc bG=>R c (.inr ((Y c).2 ⟨i,j,bG⟩))
 have:a=[]:=List.length_eq_zero_iff.1 P;subst this;exact .fI _ _
def tQ:V->List Nat
 | .a8 k _ _ _ _=>[k]
 |_=>[]
mutual
def p8(H:Nat->Option E):V->List Nat
 | .a8 k _ _ _ _=>[k]
 | .ref id _=>id::(match H id with
  |some (.cells cs)=>cs.flatMap tQ
  |_=>[])
 | .agg cs=>o4 H cs
 | .bH cs=>o4 H cs
 | .fn _ cs=>o4 H cs
 | .t _| .aL _| .cw _ _ _ _ _| .cY=>[]
def o4(H:Nat->Option E):List V->List Nat
 | []=>[]
 |v::a=>p8 H v++o4 H a
end
section
variable {β:Map}{w:World}{X X1:Nat->Prop}{H:Nat->Option E}
theorem Oy{v:V}{x:T}{r:List dc}{u:Value}(q: ∀k e,H k=some e->cC β w X k e)(l: ∀b,X1 b->X b)(z: ∀k,k∈tQ v-> ∀b,At β k b-> ¬X1 b)
  (h:xD H v=some (x,r)) (a:cc r) (n:bk β w X v u):cP w X1 x u:=by
 cases v with
 |a8 k gen A B F=>
  simp only[xD] at h;split at h
  ·rename_i ty c o i p;cases h;obtain⟨rfl,rfl,rfl,rfl,_⟩:=a;exact(q k _ p).read n l (z k (by simp[tQ]))
  ·rename_i G m c i p;cases h;obtain⟨rfl,rfl,rfl,rfl,_⟩:=a;exact(q k _ p).agK n l (z k (by simp[tQ]))
  cases h
 |t y=>
  simp only[xD] at h;cases h;cases n with|t _ _ h=>exact(h.mono (Ext.refl _ _) λb _=>l b).yu
 |agg=>cases h
 |bH=>cases h
 |ref=>cases h
 |aL=>cases h
 |cw=>cases h
 |fn=>cases h
 |cY=>cases h
theorem Nh(q: ∀k e,H k=some e->cC β w X k e)(r: ∀b,X1 b->X b): ∀{a:List V} {fg:List T} {m:List dc},(∀k,k∈a.flatMap tQ-> ∀b,At β k b-> ¬X1 b)->BL H a=some (fg,m)->cc m->
  fg.length=a.length/\ ∀(A:Nat->Option Value),(∀(i:Nat) c u,a[i]? =some c->A i=some u->bk β w X c u)-> ∀(i:Nat) x u,fg[i]? =some x->A i=some u->cP w X1 x u
 | [],_,_,_,h,_=>by cases h;exact⟨rfl,λ_ _ i x u F=>by simp at F⟩
 |v::a,fg,m,z,h,n=>by
  simp only[BL] at h;split at h
  ·rename_i x G M L Q R;cases h;obtain⟨W,f⟩:=cc.app n;obtain⟨t,D⟩:=Nh q r (λk o=>z k (by rw[y5];exact oR _ o)) R f;refine⟨by simp[t],λA B i y u p l=>?_⟩;cases i with
   |zero=>
    simp at p;subst p;exact Oy q r (λk o=>z k (by rw[y5];exact oT _ o)) Q W (B 0 v u rfl l)
   |succ i=>
    exact D (λj=>A (j+1)) (λj c u I l=>B (j+1) c u (by simpa using I) l) i y u (by simpa using p) l
  cases h
mutual
theorem aaJ(L: ∀k e,H k=some e->cC β w X k e)(B: ∀b,X1 b->X b): ∀(v:V) {r:V} {y:List dc} {u:Value},(∀k,k∈p8 H v-> ∀b,At β k b-> ¬X1 b)->
  ni H v=some (r,y)->cc y->bk β w X v u->bk gT w X1 r u
 | .a8 k gen M l len,r,y,u,q,h,a,o=>by
  simp only[ni] at h;split at h
  ·rename_i x z A;cases h;exact .t _ _ (Oy L B (λj R=>q j (by simpa[p8,tQ] using R)) A a o)
  cases h
 | .t x,r,y,u,q,h,a,o=>by
  simp only[ni] at h;cases h;cases o with|t _ _ h=>exact .t _ _ (h.mono (Ext.refl _ _) λb _=>B b).yu
 | .aL cs,r,y,u,q,h,a,o=>by
  simp only[ni] at h;cases h;exact o.under (u:=gr) B (λ_ h=>by simp[gr] at h) rfl
 | .ref id l,r,y,u,q,h,a,o=>by
  simp only[ni] at h;split at h
  ·rename_i cs m;split at h
   ·rename_i fg z A;cases h;obtain⟨b,N,rfl⟩:=rA o;obtain⟨fL,n,ty,P,T,mq,xI⟩:=L id _ m;rw[N] at P;cases P;obtain⟨W,F⟩:=Nh L B (λk G=>q k (by simp only[p8,m];exact ew _ G)) A a;have D:b<w.heap.size:=by
     have:=(js.1 T).1;exact this
    refine .aL (fg.drop l) b l (λj=>n.getD (l+j) undef) D (q id (by simp[p8]) b (.inl ⟨_,N⟩)) (λj R=>?_) λj x I=>?_
    ·rw[fz] at R
     have:l+j<n.size:=O
     simp[World.cell?,T,this]
    rw[gy] at I;have R:=(bU.1 I).1
    have:l+j<n.size:=O
    have e:n.getD (l+j) undef=n[l+j]:=by simp[this]
    rw[e];exact F (λi=>n[i]?) (λi c u m p=>xI i c u m p) (l+j) x _ I (by simp[this])
   cases h
  cases h
 | .agg cs,r,y,u,q,h,a,o=>by
  simp only[ni] at h;split at h
  ·rename_i U z A;cases h;cases o with|agg _ n Y Q=>
   obtain⟨W,F⟩:=wX L B cs (λk G=>q k (by simpa[p8] using G)) A a;exact .agg _ n O λi c u m p=>F (λi=>n[i]?) (λi c u m p=>Q i c u m p) i c u m p
  cases h
 | .bH cs,r,y,u,q,h,a,o=>by
  simp only[ni] at h;split at h
  ·rename_i U z A;cases h;cases o with|bH _ n Y Q=>
   obtain⟨W,F⟩:=wX L B cs (λk G=>q k (by simpa[p8] using G)) A a;exact .bH _ n O λi c u m p=>F (λi=>n[i]?) (λi c u m p=>Q i c u m p) i c u m p
  cases h
 | .fn f cs,r,y,u,q,h,a,o=>by
  simp only[ni] at h;split at h
  ·rename_i U z A;cases h;cases o with|fn _ _ n Y Q=>
   obtain⟨W,F⟩:=wX L B cs (λk G=>q k (by simpa[p8] using G)) A a;exact .fn _ _ n O λi c u m p=>F (λi=>n[i]?) (λi c u m p=>Q i c u m p) i c u m p
  cases h
 | .cw _ _ _ _ _,_,_,_,_,h,_,_=>by simp only[ni] at h;cases h
 | .cY,_,_,_,_,h,_,_=>by simp only[ni] at h;cases h
theorem wX(r: ∀k e,H k=some e->cC β w X k e)(z: ∀b,X1 b->X b): ∀(l:List V) {a:List V} {n:List dc},(∀k,k∈o4 H l-> ∀b,At β k b-> ¬X1 b)->
  pa H l=some (a,n)->cc n->a.length=l.length/\ ∀(A:Nat->Option Value),(∀(i:Nat) c u,l[i]? =some c->A i=some u->bk β w X c u)-> ∀(i:Nat) x u,a[i]? =some x->A i=some u->bk gT w X1 x u
 | [],_,_,_,h,_=>by simp only[pa] at h;cases h;exact⟨rfl,λ_ _ i x u G=>by simp at G⟩
 |v::l,a,n,B,h,o=>by
  simp only[pa] at h;split at h
  ·rename_i x L N Q R W;cases h;obtain⟨f,t⟩:=cc.app o;obtain⟨D,I⟩:=wX r z l (λk p=>B k (by simp only[o4];exact oR _ p)) W t;refine⟨by simp[D],λA F i y u q m=>?_⟩;cases i with
   |zero=>
    simp at q;subst q;exact aaJ r z v (λk p=>B k (by simp only[o4];exact oT _ p)) R f (F 0 v u rfl m)
   |succ i=>
    exact I (λj=>A (j+1)) (λj c u M m=>F (j+1) c u (by simpa using M) m) i y u (by simpa using q) m
  cases h
end
theorem abC(r: ∀k e,H k=some e->cC β w X k e)(x: ∀b,X1 b->X b): ∀{l a:List V} {m:List dc} {us:List Value},(∀k,k∈o4 H l-> ∀b,At β k b-> ¬X1 b)->
  pa H l=some (a,m)->cc m->dj β w X l us->dj gT w X1 a us:=fun {l a m us} y h n q=>by obtain⟨z,A⟩:=wX r x l y h n;exact E7 (by rw[z];exact q.ff.1) λi c u o p=>A (λi=>us[i]?) (λi c u o p=>q.ff.2 i c u o p) i c u o p
end
theorem ZK{C:dH}(xR:C.P=K.P)(kY:C.G=K.G){c:Operand}{i:Array Operand}{x:Array TypeId}{l:List V}{H:Nat->Option E}{T:List cq}{U:List dc}(cu:j2 K.nt d=true)(hH: ∀k e,H k=some e->s.H k=some e)
  (R:l=s.get c::i.toList.map s.get) (h:Hh C d H l T=some (e,U,L)) (W:cc U):dO K ⟨d,.call {callee:= .value c,args:=i,argTypes:=x},ty,pos,af,g⟩ s (e.app s):=by
 unfold Hh at h;split at h
 ·rename_i f m args;split at h
  ·rename_i r T;split at h
   ·rename_i ys aid n j;cases h;rw[oN];obtain⟨yz,⟨y,o⟩,_⟩:=cc.app W;rw[xR] at y o;rw[kY] at o;simp only[List.cons.injEq] at R;obtain⟨Y,h1,h2,h3⟩:=y;intro β a w next Q q t
    have v:Y.name≠ "runtime.NumGoroutine" :=by simpa using h2
    have D:Y.body≠none:=by intro e;simp[e] at h3
    obtain⟨us,I,M⟩:=(R.1.symm▸q.get c).HN;have z:(execOp a.eval ⟨d,.call {callee:= .value c,args:=i,argTypes:=x},ty,pos,af,g⟩).run K.P w= .ok (.enter f (i.map a.eval++us)) w:=by
     simp[execOp,resolve,Deferred.ofValue,I,invoke,callFunc,h1,v,D]
    unfold Oper.wp;rw[z,Oper.upon_enter];have A:dj β w (own K β s.H) (args++m) (i.toList.map a.eval++us.toList):=by rw[R.2];exact(q.oq i.toList).app M
    let X1:Nat->Prop:=λb=>own K β s.H b/\ ∀k,k∈o4 H (args++m)-> ¬At β k b;have p:=abC (X1:=X1) (λk e N=>(q.heap k e (hH k e N)).2) (λb n=>n.1) (λk t b n hx=>hx.2 k t n) n yz A;have B:=o w X1 _ q.B5 (λb n=>q.Jb b n.1) p;have N:(List.map a.eval i.toList++us.toList).toArray=i.map a.eval++us:=by rw[<-vS,<-Array.toList_append]
    rw[N] at B;refine B.mono ?_;rintro e w' ⟨u,rfl,F,hu⟩;exact t β _ w' ((q.grow F).put d (gR cu) (Nv j hu))
   cases h
  cases h
 cases h
theorem aaZ{C:dH}(N:C.P=K.P)(T:C.G=K.G){c:Operand}{Q:Array Operand}{x:Array TypeId}{m:List V}{H:Nat->Option E}{t R:List cq}{D:List dc}(U:j2 K.nt d=true)
  (Y: ∀k e,H k=some e->s.H k=some e) (hu: ∀k,u k=false->s.u k=false)
  (z:m=s.get c::Q.toList.map s.get) (h:Hr C d m H u t=some (e,D,R)) (W:cc D):dO K ⟨d,.call {callee:= .value c,args:=Q,argTypes:=x},ty,pos,af,g⟩ s (e.app s):=by
 unfold Hr at h;split at h
 ·rename_i f A args;split at h
  ·rename_i L a r out t;split at h
   ·rename_i b gF fP aE n;cases h;simp only[List.cons.injEq] at z;simp only[Bool.and_eq_true] at n;obtain⟨⟨p,B⟩,i⟩:=n;have i:=cL i;obtain⟨⟨I,q⟩,_⟩:=W;rw[N] at I q;rw[T] at q;obtain⟨aI,a2⟩:=w8 _ _ fP;obtain⟨i1,i2⟩:=Ak _ _ aE;have hx:=Ym (K:=K) (s:=s) (o:=⟨d,.call {callee:= .value c,args:=Q,argTypes:=x},ty,pos,af,g⟩) c L a A rfl z.1.symm I (gR U) (by rw[<-z.2,aI];exact lX _) a2 i1
     (λk e l=>by
      obtain⟨id,h1,h2,h4⟩:=i2 k e l;exact⟨id,h1,Y _ _ h2,h4⟩)
     (zT p) (λid hid=>hu _ (La B id hid)) (λ_=>i) q
    have hj:=hx.j;have l:cN.app ⟨e4 d (r.dp (L++a)),(L++a).zip (out.map λe=>some (e.dp (L++a))),(L++a).map λk=>(k,true)⟩ s=(s.after (L++a) out).put d (r.dp (L++a)):=by
     have e1:df s.H ((L++a).zip (out.map λe=>some (e.dp (L++a))))=k9 s.H (L++a) (λk=>(out[k]?).map (E.dp (L++a))):=by
      have:=K8 (L++a) (zT p) s.H (out.map λe=>some (e.dp (L++a))) (λk=>(out[k]?).map (E.dp (L++a))) (by simpa using i) (λk e l=>by
       rw[ev] at l;cases M:out[k]? with
       |none=>rw[M] at l;cases l
       |some y=>rw[M] at l;simp at l;rw[<-l];rfl)
      exact this
     have e2:df s.u ((L++a).map λk=>(k,true))=k9 s.u (L++a) (λ_=>true):=by
      funext id;by_cases F:id∈L++a
      ·obtain⟨k,hk⟩:=kf.1 F;rw[oA (zT p) hk];exact K' F
      rw[ns F,mz _ _ _ λv z=>F (by obtain⟨y,hy,e⟩:=ey.1 z;cases e;exact hy)]
     unfold cN.app S.after;cases d<;>simp only[e4,df,S.put,e1,e2]
    grind
   cases h
  cases h
 cases h
theorem Xq{C:dH}(r:dP K.P C.b9){H:Nat->Option E}{v:V}(y: ∀k e,H k=some e->s.H k=some e)
  (z:s.get x=v) (h:Gu C t H v l=some (e,m,c)) (a:cc m):dO K ⟨none,.call {callee:= .builtin .clear,args:= #[x],argTypes:= #[t]},ty,pos,af,g⟩ s (e.app s):=by
 unfold Gu at h;split at h
 ·cases h
 rename_i i A;split at h
 ·rename_i n o;have B:K.P.underlying t=some (.slice n):=(r _ _ A).iw.2.2.2 n o;split at h
  ·cases h
  rename_i j F;obtain⟨W,G,_⟩:=r _ _ F;split at h
  ·rename_i p;split at h
   ·rename_i L Q;cases h;obtain⟨rfl,rfl,q,⟨R,rfl⟩,_⟩:=a;exact aaS x _ _ _ n _ _ _ z (y _ _ L) B G Q p q R
   cases h
  cases h
 cases h
theorem YN{C:dH}(B:dP K.P C.b9){F:TypeId}{H:Nat->Option E}{v w:V}{G:List cq}{L:List dc}(b: ∀k e,H k=some e->s.H k=some e)(f:j2 K.nt d=true)
  (u:s.get x=v) (D:s.get y=w) (h:GZ C d t H v w G=some (e,L,n)) (o:cc L):dO K ⟨d,.call {callee:= .builtin .copy,args:= #[x,y],argTypes:= #[t,F]},ty,pos,af,g⟩ s (e.app s):=by
 unfold GZ at h;split at h
 ·cases h
 rename_i i I;split at h
 ·rename_i p q;have M:K.P.underlying t=some (.slice p):=(B _ _ I).iw.2.2.2 p q;split at h
  ·cases h
  rename_i j Q;obtain⟨qT,N,_⟩:=B _ _ Q;split at h
  ·rename_i k gen W r z a R m G T;split at h
   ·rename_i U c A l Y hp;cases h;obtain⟨rfl,rfl,rfl,rfl,bR,⟨b8,rfl⟩,_⟩:=o;have Q:=acj (K:=K) (s:=s) (d:=d) (ty:=ty) (pos:=pos) (af:=af) (g:=g) (gen:=c) (size:=j.size) x y k r z p U F l a (gR f) u (by rw[D,<-T];exact tP w) (b _ _ Y) M N (by simpa[Nat.blt_eq] using hp) bR b8
    have: ∀v e,cN.app ⟨e4 d v,[(k,some e)],[]⟩ s=({s with H:=aS s.H k (some e)}:S).put d v:=by intro v e;cases d<;>rfl
    grind
   cases h
  cases h
 cases h
theorem abU{C:dH}(z:dP K.P C.b9)(I:C.P=K.P)(T:C.G=K.G)(cy:C.nt=K.nt)(U:C.c6=K.c6){m:List V}{H:Nat->Option E}{W:List cq}{b:List dc}
  (a:m=o.op.operands.toList.map s.get) (F: ∀k e,H k=some e->s.H k=some e) (R: ∀k,u k=false->s.u k=false) (h:HM C o m H u M=some (e,b,W)) (l:cc b):dO K o s (e.app s):=by
 obtain⟨d,j,ty,pos,af,g⟩:=o;unfold HM at h;dsimp only at h;split at h
 ·cases h
 rename_i q;rw[cy] at q;have L: ∀{j:Op} {r:i'},m=j.operands.toList.map s.get->(match xL C.P C.b9 H j m M with|some (v,b,M)=>some ((⟨e4 d v,[],[]⟩:cN),b,M)|none=>none)=some (e,b,W)->dO K ⟨d,j,ty,pos,af,g⟩ s (e.app s):=by
  intro j r a h;split at h
  ·rename_i v aic ahL n;cases h;rw[oN];rw[I] at n;exact UT (vals:=m) (gR q) (fh.of_eq a.symm) ((abT z n l).sub F)
  cases h
 split at h
 ·split at h
  ·simp only[Op.operands,List.map_cons,List.map_nil,List.cons.injEq,and_true] at a;split at h
   ·exact Yd q a.symm h
   exact ZJ R q a.symm h
  cases h
 ·split at h
  ·rename_i i aE;exact WX z aE R q h
  cases h
 ·split at h
  ·simp only[Op.operands,List.map_cons,List.map_nil,List.cons.injEq,and_true] at a;split at h
   ·rename_i n;cases h;exact Xl z rfl F a.1.symm a.2.symm n l
   exact Wc z F a.1.symm a.2.symm h l
  cases h
 ·split at h
  ·simp only[Op.operands,List.map_cons,List.map_nil,List.cons.injEq,and_true] at a;exact YL z R q a.1.symm a.2.symm h l
  cases h
 ·split at h
  ·rename_i n;cases h;exact ZC z R q (by simpa[Op.operands] using a) n l
  exact YM z R q (by simpa[Op.operands] using a) h
 ·rename_i c;obtain⟨N,args,Q⟩:=c;dsimp only at h;split at h
  ·rename_i f;split at h
   ·exact aaZ I T q F R (by simpa[Op.operands,Call.operands] using a) h l
   split at h
   ·exact ZK I T q F (by simpa[Op.operands,Call.operands] using a) h l
   exact YQ I T q (by simpa[Op.operands,Call.operands] using a) h l
  ·split at h
   ·rename_i x y t Y v w D A;have B:args= #[x,y]:=by rw[<-D]
    have p:Q= #[t,Y]:=by rw[<-A]
    subst B;subst p;simp only[Op.operands,Call.operands] at a;simp at a;split at h
    ·rename_i n;cases h;exact We z U F q a.1.symm a.2.symm n l
    exact Vf z F q a.1.symm a.2.symm h l
   cases h
  ·split at h
   ·rename_i x t v D A;have B:args= #[x]:=by rw[<-D]
    have p:Q= #[t]:=by rw[<-A]
    subst B;subst p;simp only[Op.operands,Call.operands] at a;simp at a;exact Xq z F a.symm h l
   cases h
  ·split at h
   ·rename_i x y t Y v w D A;have B:args= #[x,y]:=by rw[<-D]
    have p:Q= #[t,Y]:=by rw[<-A]
    subst B;subst p;simp only[Op.operands,Call.operands] at a;simp at a;exact YN z F q a.1.symm a.2.symm h l
   cases h
  ·exact L (r:=none) a h
  cases h
 exact L (r:=none) a h
def afB:V->List Nat
 | .ref id _=>[id]
 | .a8 id _ _ _ _=>[id]
 | .cw id _ _ _ _=>[id]
 |_=>[]
def Hq:List V->List Nat
 | []=>[]
 |v::a=>afB v++Hq a
def QH:List cq->List Nat
 | .nat k::a=>k::QH a
 |_=>[]
def afA:List cq->List Nat
 | .b true::c=>QH c
 | .nat k::_=>[k]
 | .int _:: .nat k::_=>[k]
 | .dC L a _ _::_=>L++a
 | .lt k _ _::_=>[k]
 |_=>[]
def iB(k:Nat):List Nat->Bool
 | []=>false
 |x::l=>bif Nat.beq x k then true else iB k l
theorem AF{k:Nat}: ∀{l:List Nat},iB k l=true->k∈l
 | [],h=>by cases h
 |x::l,h=>by
  simp only[iB] at h;cases a:Nat.beq x k with
  |true=>rw[cL a];exact eM
  |false=>rw[a] at h;exact ew _ (AF h)
def ud(a:List Nat)(H:Nat->Option E):Nat->Option E:=λk=>bif iB k a then H k else none
def uc(a:List Nat)(u:Nat->Bool):Nat->Bool:=λk=>bif iB k a then u k else true
theorem Wv{H:Nat->Option E}{e:E}(h:ud r H k=some e):H k=some e:=by
 unfold ud at h
 grind
theorem Vu(h:uc r u k=false):u k=false:=by
 unfold uc at h
 grind
def acx:Op->List V->Bool
 | .nilCheck _,[.cw _ _ _ _ _]=>false
 | .move _,_| .assign _,_| .pick _ _ _,_| .nilCheck _,_| .binOp _ _ _ _ _,_| .unOp _ _ _,_| .convert _ _ _,_| .makeFunc _ _ _,_| .extract _ _,_| .field _ _ _,_| .build _ _,_=>true
 | .fieldAddr _ _ _,[.ref _ _]=>true
 |_,_=>false
def acv:Op->Bool
 | .load _ _| .slice _ _ _ _ _| .fieldAddr _ _ _| .indexAddr _ _ _| .index _ _ _| .nilCheck _=>true
 | .call c=>match c.callee with
  | .builtin .len=>true
  | .builtin .max=>true
  | .builtin .min=>true
  |_=>false
 |_=>false
def u0(o:Oper)(a:List V)(c:List cq):List Nat:=match acx o.op a with
 |true=>[]
 |false=>match acv o.op with
  |true=>Hq a
  |false=>Hq a++afA c
def qs(C:dH)(o:Oper)(a:List V)(s:S)(c:List cq):i':=HM C o a (ud (u0 o a c) s.H) (uc (u0 o a c) s.u) c
def IL:Bool->Bool->Bool
 |true,true=>true
 |false,false=>true
 |_,_=>false
def uK(a:Array Oper)(j:Nat)(s:S):Option V:=match (a[j]?).bind (·.dst) with
 |some t=>some (s.t t)
 |none=>none
def sg(C:dH)(h:Array Oper)(o:Oper)(a:List cq)(s:S):i':=
 match o.guard with
 |none=>qs C o (o.op.operands.toList.map s.get) s a
 |some (j,c)=>match uK h j s with
  |some (.bH [])=>match j2 C.nt o.dst with
   |true=>some (⟨e4 o.dst (.bH []),[],[]⟩,[],a)
   |false=>none
  |some (.t (.bool b))=>match a with
   | .b w::a=>match IL w c with
    |true=>match qs C o (o.op.operands.toList.map s.get) s a with
     |some (e,i,a)=>some (e,.p (b=w)::i,a)
     |none=>none
    |false=>match j2 C.nt o.dst with
     |true=>some (⟨e4 o.dst (.bH []),[],[]⟩,[.p (b=w)],a)
     |false=>none
   |_=>none
  |_=>none
end
structure dH.Fits (C:dH) (K:Ctx):Prop where
 T:dP K.P C.b9
 P:C.P=K.P
 G:C.G=K.G
 nt:C.nt=K.nt
 c6:C.c6=K.c6
 fW:C.fW=K.fW
section
variable {K:Ctx}{s:S}{C:dH}
theorem OW(a:C.Fits K)(h:qs C o (o.op.operands.toList.map s.get) s l=some (e,m,c))(i:cc m):dO K o s (e.app s):=
 abU a.T a.P a.G a.nt a.c6 rfl (λ_ _ h=>Wv h) (λ_ h=>Vu h) h i
theorem ZP{w v:Bool}(h:IL w v=true):w=v:=by cases w<;>cases v<;>first|rfl|cases h
theorem Yw{w v:Bool}(h:IL w v=false):w= !v:=by cases w<;>cases v<;>first|rfl|cases h
theorem Oh{a:Array Oper}{j:Nat}{v:V}(h:uK a j s=some v): ∃t,(a[j]?).bind (·.dst)=some t/\s.t t=v:=by
 unfold uK at h
 grind
theorem OU(p:C.Fits K){V:Array Oper}(h:sg C V o l s=some (e,m,c))(a:cc m):hZ K V o s (e.app s):=by
 unfold sg at h;split at h
 ·rename_i k;exact hZ.of k (OW p h a)
 rename_i j z k;split at h
 ·rename_i i;obtain⟨t,q,r⟩:=Oh i;split at h
  ·rename_i x;cases h;rw[oN];exact hZ.skip k q r (gR (p.nt▸x))
  cases h
 ·rename_i b i;obtain⟨t,q,r⟩:=Oh i;split at h
  ·rename_i w l;split at h
   ·rename_i hw;have hw:=ZP hw;subst hw;split at h
    ·rename_i F A B y;cases h;obtain⟨rfl,n⟩:=a;exact hZ.gF k q r (OW p y n)
    cases h
   rename_i hw;have hw:=Yw hw;subst hw;split at h
   ·rename_i x;cases h;obtain⟨rfl,_⟩:=a;rw[oN];exact hZ.out k q r (gR (p.nt▸x))
   cases h
  cases h
 cases h
theorem abq{V:Array Oper}{l:List Oper}{Q:S->Prop}(h:hZ K V o s b)(k:qi K V l b Q):qi K V (o::l) s Q:=
 λβ a w c m n=>h β a w (wpList K.P V c l) c m λe p q i=>k e p q c i n
end
end Go.Lift
