/- Tools. -/
import Derived.Test.YteifkndfpnkalaaGreatDLiftTV
namespace Go.Lift
open Go
open Option renaming some -> aa, none -> aj, map_some -> ht
open Bool renaming true -> ab, false -> ak, and_eq_true -> b9
open Go.Result renaming andThen_ok -> fu
open Go.Builtin renaming zeroCells -> eR
open List renaming replicate -> dA, map_cons -> gd
open Go.World renaming shape? -> hv
open Go.Sem renaming run_bind -> fx
open Nat renaming beq -> b5, blt -> dt, ble -> db
section
variable {P:Program}{cq:List (Nat×cu)}{H:Nat->Option E}{d:Option Tmp}{ty:TypeId}{pos:String}{af:Array Edge}{g:Option (Nat×Bool)}
variable {t:TypeId}{u:TypeDesc}{z:Value}{size bytes:Nat}
theorem CO(a:BinOp)(e:Q3 a=ab)(x y:Operand)(t h:TypeId)(k:IntKind)(m n:Int):cc P H ⟨d,.binOp a t x y h,ty,pos,af,g⟩ [.t (.int k m),.t (.int k n)] (.t (.int k (bits a k m n))):=by
 intro i w X l _ c;refine⟨Value.int k (bits a k m n),?_,.t _ _ (.int k _)⟩;cases a<;>simp[Q3] at e<;>
  simp[execOp,dP c.1,dP c.2.1,eqGuard,binOp,intBits_and,intBits_or,intBits_xor,intBits_andNot]
theorem aeF(x y:Operand)(t c:TypeId)(m n:List UInt8):cc P H ⟨d,.binOp .lss t x y c,ty,pos,af,g⟩ [.t (.str m),.t (.str n)] (.t (.bool (Op.bytesLess m n))):=by intro e w X h _ a;refine⟨.bool (Op.bytesLess m n),?_,.t _ _ (.bool _)⟩;simp[execOp,ir a.1,ir a.2.1,eqGuard,binOp,Op.stringOp]
theorem aeH(x y:Operand)(t c:TypeId)(m n:List UInt8):cc P H ⟨d,.binOp .gtr t x y c,ty,pos,af,g⟩ [.t (.str m),.t (.str n)] (.t (.bool (!Op.bytesLess m n&& !m==n))):=by intro e w X h _ a;refine⟨.bool (!Op.bytesLess m n&& !m==n),?_,.t _ _ (.bool _)⟩;simp[execOp,ir a.1,ir a.2.1,eqGuard,binOp,Op.stringOp]
theorem aeG(x y:Operand)(t c:TypeId)(m n:List UInt8):cc P H ⟨d,.binOp .leq t x y c,ty,pos,af,g⟩ [.t (.str m),.t (.str n)] (.t (.bool (Op.bytesLess m n||m==n))):=by intro e w X h _ a;refine⟨.bool (Op.bytesLess m n||m==n),?_,.t _ _ (.bool _)⟩;simp[execOp,ir a.1,ir a.2.1,eqGuard,binOp,Op.stringOp]
theorem afU(x:Operand)(t:TypeId)(k:IntKind)(n:Int):cc P H ⟨d,.unOp .neg t x,ty,pos,af,g⟩ [.t (.int k n)] (.t (.int k (k.wrap (0-n)))):=by intro c w X e _ a;refine⟨.int k (k.wrap (0-n)),?_,.t _ _ (.int _ _)⟩;simp[execOp,dP a.1,Op.unary,Op.intArith]
theorem Xk(x:Operand)(f:FuncId)(a:List V):cc P H ⟨d,.nilCheck x,ty,pos,af,g⟩ [.fn f a] (.fn f a):=by intro h w X c _ i;have e:bq h w X (.fn f a) (c x):=i.1;refine⟨c x,?_,e⟩;generalize k:c x=y at e;cases e with|fn=>simp[execOp,k]
variable {a v b:V}{x y:Operand}{i k:TypeId}{m e r:List dE}{n l c p q:List cB}{W:Map}{w:World}{X:Nat->Prop}
theorem abT{a:BinOp}{t:TypeId}{k:IntKind}{m n:Int}(h:IF a k m n l=aa (v,e,c))(o:cy e):
  cc P H ⟨d,.binOp a t x y i,ty,pos,af,g⟩ [.t (.int k m),.t (.int k n)] v:=by
 cases a<;>simp only[IF,Rz,Option.some.injEq,Prod.mk.injEq,reduceCtorEq] at h<;>obtain⟨rfl,rfl,rfl⟩:=h
 ·exact af4 _ _ _ _ _ _ _
 ·exact afP _ _ _ _ _ _ _
 ·exact afV _ _ _ _ _ _ _
 ·exact afR _ _ _ _ _ _ _ o.1
 ·exact afQ _ _ _ _ _ _ _ o.1
 ·exact CO .and rfl _ _ _ _ _ _ _
 ·exact CO .or rfl _ _ _ _ _ _ _
 ·exact CO .xor rfl _ _ _ _ _ _ _
 ·exact CO .andNot rfl _ _ _ _ _ _ _
 ·exact af2 _ _ _ _ _ _ _
 ·exact afT _ _ _ _ _ _ _
 ·exact afY _ _ _ _ _ _ _
 ·exact afZ _ _ _ _ _ _ _
 ·exact af0 _ _ _ _ _ _ _
 exact af1 _ _ _ _ _ _ _
theorem ab7{a:BinOp}{t:TypeId}{m n:List UInt8}(h:IK a m n l=aa (v,e,c))(k:cy e):
  cc P H ⟨d,.binOp a t x y i,ty,pos,af,g⟩ [.t (.str m),.t (.str n)] v:=by
 unfold IK at h;split at h<;>cases h
 ·obtain⟨o,rfl⟩:=acF k.1;exact af3 _ _ _ _ _ _ o
 ·exact aeJ _ _ _ _ _ _
 ·exact aeE _ _ _ _ _ _
 ·exact aeI _ _ _ _ _ _
 ·exact aeF _ _ _ _ _ _
 ·exact aeH _ _ _ _ _ _
 exact aeG _ _ _ _ _ _
theorem N4(a:ek P cq)(h:Iv (dL cq t)=ab):P.underlying t=aa .bool:=by
 unfold Iv at h;split at h
 ·rename_i i c;split at h
  ·rename_i e;exact(a _ _ c).jn.1 e
  cases h
 cases h
theorem GL(a:ek P cq)(h:yg (dL cq t)=ab):P.underlying t=aa .string:=by
 unfold yg at h;split at h
 ·rename_i i c;split at h
  ·rename_i e;exact(a _ _ c).jn.2.2.1 e
  cases h
 cases h
theorem Ca(a:ek P cq)(h:yt (dL cq t)=ab): ∃e,P.underlying t=aa (.slice e):=by
 unfold yt at h;split at h
 ·rename_i i c;split at h
  ·rename_i e k;exact⟨e,(a _ _ c).jn.2.2.2 e k⟩
  cases h
 cases h
theorem xn{u:Value}(h:bq W w X (.t .hl) u):u= .nilIface:=by cases h with|t _ _ h=>cases h with|hl=>rfl
theorem PM{u:Value}(h:bq W w X (.t .err) u): ∃t v,u= .iface t v:=by cases h with|t _ _ h=>cases h with|err t v=>exact⟨t,v,rfl⟩
theorem Vx(w:World)(n:Nat){ms}(a:TypeId)(b:Value)(c:P.underlying t=aa (.interface ms)):(Op.equalIn (n+1) t (.iface a b) .nilIface).run P w= .ok ak w:=by simp[Op.equalIn,run_underlying c]
theorem Vj(w:World)(n:Nat){ms}(a:P.underlying t=aa (.interface ms)):(Op.equalIn (n+1) t .nilIface .nilIface).run P w= .ok ab w:=by simp[Op.equalIn,run_underlying a]
theorem On(w:World){ms}(a:TypeId)(b:Value)(c:P.underlying t=aa (.interface ms)):(Op.equal t (.iface a b) .nilIface).run P w= .ok ak w:=Vx w 9999 a b c
theorem Nq(w:World){ms}(a:P.underlying t=aa (.interface ms)):(Op.equal t .nilIface .nilIface).run P w= .ok ab w:=Vj w 9999 a
theorem ZS(a b):binOp .eql t (.iface a b) .nilIface=(do pure (.bool (<-Op.equal t (.iface a b) .nilIface))):=rfl
theorem ZR(a b):binOp .neq t (.iface a b) .nilIface=(do pure (.bool (!(<-Op.equal t (.iface a b) .nilIface)))):=rfl
theorem ZQ:binOp .eql t .nilIface .nilIface=(do pure (.bool (<-Op.equal t .nilIface .nilIface))):=rfl
theorem ZP:binOp .neq t .nilIface .nilIface=(do pure (.bool (!(<-Op.equal t .nilIface .nilIface)))):=rfl
theorem Oo(w:World)(o:BinOp)(x y:Operand)(a:(qz x||qz y)=ab):(eqGuard o t x y .nilIface .nilIface).run P w= .ok () w:=by cases x<;>cases y<;>simp[qz] at a<;>simp[eqGuard]<;>split<;>simp
theorem aeO(x y:Operand)(e:TypeId){ms}(h:P.underlying t=aa (.interface ms)):cc P H ⟨d,.binOp .eql t x y e,ty,pos,af,g⟩ [.t .err,.t .hl] (.t (.bool ak)):=by intro k w X l _ c;obtain⟨a,b,i⟩:=PM c.1;refine⟨.bool ak,?_,.t _ _ (.bool _)⟩;simp[execOp,i,xn c.2.1,eqGuard,ZS,On w a b h]
theorem aeN(x y:Operand)(e:TypeId){ms}(h:P.underlying t=aa (.interface ms)):cc P H ⟨d,.binOp .neq t x y e,ty,pos,af,g⟩ [.t .err,.t .hl] (.t (.bool ab)):=by intro k w X l _ c;obtain⟨a,b,i⟩:=PM c.1;refine⟨.bool ab,?_,.t _ _ (.bool _)⟩;simp[execOp,i,xn c.2.1,eqGuard,ZR,On w a b h]
theorem aeL(x y:Operand)(c:TypeId){ms}(e:P.underlying t=aa (.interface ms))(h:(qz x||qz y)=ab):cc P H ⟨d,.binOp .eql t x y c,ty,pos,af,g⟩ [.t .hl,.t .hl] (.t (.bool ab)):=by intro i w X k _ a;refine⟨.bool ab,?_,.t _ _ (.bool _)⟩;simp[execOp,xn a.1,xn a.2.1,Oo w _ x y h,ZQ,Nq w e]
theorem aeK(x y:Operand)(c:TypeId){ms}(e:P.underlying t=aa (.interface ms))(h:(qz x||qz y)=ab):cc P H ⟨d,.binOp .neq t x y c,ty,pos,af,g⟩ [.t .hl,.t .hl] (.t (.bool ak)):=by intro i w X k _ a;refine⟨.bool ak,?_,.t _ _ (.bool _)⟩;simp[execOp,xn a.1,xn a.2.1,Oo w _ x y h,ZP,Nq w e]
theorem Cb{a:List (Nat×cu)}(e:ek P a)(h:IH (dL a t)=ab): ∃ms,P.underlying t=aa (.interface ms):=by
 unfold IH at h;split at h
 ·rename_i i k;split at h
  ·rename_i l;obtain⟨u,n,c⟩:=e _ _ k;simp only[cu.is,l] at c;obtain⟨m,rfl⟩:=c;exact⟨m,n.1⟩
  cases h
 cases h
theorem abU{e:List (Nat×cu)}(q:ek P e){i:BinOp}(h:IG e i t x y a b l=aa (v,m,c)):
  cc P H ⟨d,.binOp i t x y k,ty,pos,af,g⟩ [a,b] v:=by
 unfold IG at h;split at h
 ·rename_i n p;obtain⟨ms,o⟩:=Cb q n;cases h;exact aeO _ _ _ o
 ·rename_i n p;obtain⟨ms,o⟩:=Cb q n;cases h;exact aeN _ _ _ o
 ·rename_i n p;obtain⟨ms,o⟩:=Cb q n;cases h;exact aeL _ _ _ o p
 ·rename_i n p;obtain⟨ms,o⟩:=Cb q n;cases h;exact aeK _ _ _ o p
 cases h
theorem VS(w:World)(n:Nat){e}(a:Addr)(l c:Nat)(h:P.underlying t=aa (.slice e)):(Op.equalIn (n+1) t (.slice (aa a) l c) (.slice aj 0 0)).run P w= .ok ak w:=by simp[Op.equalIn,run_underlying h]
theorem acV(w:World){e}(a:Addr)(l c:Nat)(h:P.underlying t=aa (.slice e)):(Op.equal t (.slice (aa a) l c) (.slice aj 0 0)).run P w= .ok ak w:=VS w 9999 a l c h
theorem acH(a:Addr)(l c:Nat):binOp .eql t (.slice (aa a) l c) (.slice aj 0 0)=(do pure (.bool (<-Op.equal t (.slice (aa a) l c) (.slice aj 0 0)))):=rfl
theorem acw(x y:Operand)(n:TypeId)(i:List (List T)){e}(o:P.underlying t=aa (.slice e))(p:i≠[]):cc P H ⟨d,.binOp .eql t x y n,ty,pos,af,g⟩ [.t (.bD i),.t .fT] (.t (.bool ak)):=by
 intro C w X k _ m;obtain⟨a,l,c,q⟩: ∃a l c,k x= .slice (aa a) l c:=by
  cases m.1 with|t _ _ h=>
  generalize r:k x=u at h;cases h with
  |gW=>exact bB rfl p
  |bD _ b s size A f=>exact⟨_,_,_,rfl⟩
 have B:k y= .slice aj 0 0:=by
  cases m.2.1 with|t _ _ h=>
  generalize r:k y=u at h;cases h;rfl
 refine⟨.bool ak,?_,.t _ _ (.bool _)⟩;simp[execOp,q,B,eqGuard,acH,acV w a l c o]
theorem ab8{i:List (Nat×cu)}(p:ek P i){k:BinOp}{l:TypeId}(h:IL i k t a b n=aa (v,m,c))(o:cy m):
  cc P H ⟨d,.binOp k t x y l,ty,pos,af,g⟩ [a,b] v:=by
 unfold IL at h;split at h
 ·rename_i q;obtain⟨e,r⟩:=Ca p q;cases h;exact acw _ _ _ _ r o.1
 cases h
theorem Xn(x y:Operand)(e n c a k:Nat){u:TypeDesc}{z:Value}{i L:Nat}(l:P.underlying t=aa (.array n e))(m:cr P e u z i L)(q:k<n):
  cc P H ⟨d,.indexAddr t x y,ty,pos,af,g⟩ [.ref c a,.t (.int .i64 (k:Int))] (.ref c (a+k*i)):=by
 intro r w X s A h;have cY:=dP h.2.1;obtain⟨b,o,p⟩:=sL h.1;refine⟨.pointer (aa ⟨b,a+k*i,aj⟩),?_,.ref _ _ _ o⟩;simp[execOp,p,cY,Instr.indexAt,asIntOf,run_underlying l,m.run_sizeOf,kR,Instr.sureAddr]
 grind
theorem acT(A:ek P cq){i:BinOp}{t:TypeId}(h:IW P cq i t a b c=aa (v,e,l))(m:cy e):
  cc P H ⟨d,.binOp i t x y k,ty,pos,af,g⟩ [a,b] v:=by
 unfold IW at h;split at h
 ·split at h
  ·rename_i B;subst B;exact abT h m
  cases h
 ·exact ab7 h m
 ·split at h
  ·rename_i n;cases h;exact aeQ _ _ _ _ _ (N4 A n)
  ·rename_i n;cases h;exact aeP _ _ _ _ _ (N4 A n)
  cases h
 ·split at h
  ·rename_i ms o b c p q;cases h;obtain⟨r,s,w,_⟩:=m;rw[Al p,Al q,<-w];exact aam _ _ _ _ ms o r aX (by simp[s])
  ·rename_i ms o b c p q;cases h;obtain⟨r,s,w,_⟩:=m;rw[Al p,Al q,<-w];exact aak _ _ _ _ ms o r aX (by simp[s])
  cases h
 cases h
theorem adZ{e:UnOp}(h:I1 e a l=aa (v,m,c)):
  cc P H ⟨d,.unOp e t x,ty,pos,af,g⟩ [a] v:=by
 unfold I1 at h;split at h<;>cases h
 ·exact afS _ _ _
 exact afU _ _ _ _
theorem Yo(k:ek P cq){i:cu}(l:dL cq t=aa i)(h:Hf cq (aa i)=ab): ∃e,P.underlying t=aa (.slice e)/\P.underlying e=aa (.int .u8):=by
 unfold Hf at h;split at h
 ·rename_i o a;cases a;split at h
  ·rename_i e m;split at h
   ·rename_i j n;split at h
    ·rename_i c;exact⟨e,(k _ _ l).jn.2.2.2 e m,(k _ _ n).jn.2.1 _ c⟩
    cases h
   cases h
  cases h
 cases h
theorem aau(y:ek P cq){c o:TypeId}(h:Ij cq c o a p=aa (v,r,q))(s:cy r):
  cc P H ⟨d,.convert c o x,ty,pos,af,g⟩ [a] v:=by
 unfold Ij at h;split at h
 ·rename_i i j F G;split at h
  ·rename_i L k n m p A;cases h;obtain⟨K,w,_⟩:=y _ _ F;have B:L.wrap n=m:=s.1;rw[<-B];exact QD _ _ _ _ _ K _ w.1 ((y _ _ G).jn.2.1 _ A)
  ·rename_i k n m p A;cases h;have B:UInt8.ofInt n=m:=s.1;rw[<-B];obtain⟨K,w,_⟩:=y _ _ F
   have:=QD (P:=P) (H:=H) (d:=d) (ty:=ty) (pos:=pos) (af:=af) (g:=g) x c o k .u8 K n w.1 ((y _ _ G).jn.2.1 _ A);rw[Qa] at this;exact this
  ·rename_i C l p A;split at h
   ·rename_i Q;cases h;have B:C=l.map oD:=s.1;obtain⟨e,R,W⟩:=Yo y F Q;rw[B];exact Xp _ _ _ _ _ R W ((y _ _ G).jn.2.2.1 A)
   cases h
  cases h
 cases h
theorem Xc(x:Operand)(r gen i a:Nat)(s:TypeId)(sz:Nat)(k:List (List T))(e:List T)(Q:cr P t u z size bytes)(R:lk u=ab)(F:H r=aa (.arr s gen sz k))(o:k[i]? =aa e)(U:a+size<=e.length):
  cc P H ⟨d,.load t x,ty,pos,af,g⟩ [.cK r gen sz i a] (.agg (((e.drop a).take size).map .t)):=by
 intro V w X ρ G W;obtain⟨q,K⟩:=l7 (G r _ F);obtain⟨b,y,Z⟩:=qN W.1 K;subst y;have bb:=K;rcases(G r _ F).2 with ⟨A,B⟩|⟨je,C,A,B,h3,f,D⟩
 ·rw[B] at o;simp at o
 rw[bb] at A;cases A;have I:i<k.length:=(bR.1 o).1;have M:e.length=sz:=f e (bx o);have p: ∀j,j<size->i*sz+a+j<C.size:=by
  intro j n
  have:(i+1)*sz<=k.length*sz:=eh _ I;rw[eu] at this;omega
 have l: ∀j,j<size->w.cell? ⟨b,i*sz+a+j,aj⟩=aa (C.getD (i*sz+a+j) undef):=λj n=>by
  have:=p j n;simp[World.cell?,B,this]
 refine⟨_,by simp[execOp,Z,Instr.loadAt,Instr.sureAddr,Q.Eu w R l];rfl,?_⟩;refine .agg _ _ bP λj c v h L=>?_;have n:j<size:=by
  have:=(bR.1 h).1;simp at this;omega
 rw[eK,List.getElem?_take_of_lt n,gY] at h;simp only[List.getElem?_toArray,List.getElem?_map,List.getElem?_range n,ht,Option.some.injEq] at L;cases m:e[a+j]? with
 |none=>rw[m] at h;simp at h
 |some N=>
  rw[m] at h;simp at h;rw[<-h]
  have:=p j n;have S:=D i (a+j) e N C[i*sz+a+j] o m (by rw[<-q8];simp[this]);rw[<-L];simp only[Array.getElem?_eq_getElem this,Option.getD_some];exact .t _ _ S
theorem Om(K:ek P cq)(h:u4 cq H t a l=aa (v,e,n))(w:cy e):
  cc P H ⟨d,.load t x,ty,pos,af,g⟩ [a] v:=by
 unfold u4 at h;split at h
 ·cases h
 rename_i i L;obtain⟨Q,q,m⟩:=(K _ _ L).agg;split at h
 ·rename_i id B;split at h
  ·rename_i cs s;split at h
   ·rename_i o;split at h
    ·rename_i p;cases h;exact acx _ _ _ _ q (m.trans o) s p
    cases h
   rename_i o;split at h
   ·rename_i c C;cases h;exact acy _ _ _ _ _ q (m.trans o) s C
   cases h
  cases h
 ·rename_i cs;split at h
  ·rename_i o;split at h
   ·rename_i p;cases h;exact YJ _ _ q (m.trans o) (eO p)
   cases h
  rename_i o;split at h
  ·cases h;exact YK _ _ _ q (m.trans o)
  cases h
 ·rename_i id gen R k B;split at h
  ·rename_i y F A r l s o;split at h
   ·rename_i c C;cases h;obtain⟨rfl,rfl,G,_⟩:=w;exact Xd _ _ _ _ _ _ _ _ _ _ q (m.trans o) s G C
   cases h
  ·rename_i y F A r l s o;split at h
   ·rename_i p;cases h;obtain⟨rfl,rfl,G,_⟩:=w;exact Xc _ _ _ _ _ _ _ _ _ q (m.trans o) s G (eO p)
   cases h
  cases h
 cases h
theorem Np{j:Nat}: ∀{c:List (Nat×Nat×V)},s9 j c=aj-> ∀i v,(i,j,v)∉c
 | [],_,_,_,h=>by cases h
 |h::c,a,i,v,hm=>by
  simp only[s9] at a;cases e:b5 h.2.1 j with
  |true=>rw[e] at a;cases a
  |false=>
   rw[e] at a;rcases ez.1 hm with rfl|hm
   ·simp at e
   exact Np a i v hm
theorem Gg{j:Nat}{x:Nat×V}: ∀{c:List (Nat×Nat×V)},s9 j c=aa x->(x.1,j,x.2)∈c
 |h::c,a=>by
  simp only[s9] at a;cases e:b5 h.2.1 j with
  |true=>
   rw[e] at a;cases a
   have:=de e;subst this;exact eD
  |false=>rw[e] at a;exact eo _ (Gg a)
theorem xp{I:List (Nat×Nat×V)}{k:Nat}: ∀{n j:Nat} {l:List (Nat×V)},sX I j n=aa l->cy (s0 k l)->l.length=n/\ ∀i v,(l.map (·.2))[i]? =aa v->(k,j+i,v)∈I
 |0,_,_,h,_=>by cases h;exact⟨rfl,λi v h=>by simp at h⟩
 |n+1,j,l,h,a=>by
  simp only[sX] at h;split at h
  ·rename_i x p m o;cases h;simp only[s0] at a;obtain⟨e,a⟩:=a;obtain⟨aL,a2⟩:=xp o a;refine⟨by simp[aL],λi v c=>?_⟩;cases i with
   |zero=>
    simp at c;subst c
    have:=Gg m;rw[e] at this;exact this
   |succ i=>
    have:=a2 i v (by simpa using c)
    rwa [show j+1+i=j+(i+1) by omega] at this
  cases h
theorem ZE(X:ek P cq){W Z:List cB}{M:List dE}(h:H2 cq H t a W=aa (v,M,Z))(o:cy M):
  cc P H ⟨d,.load t x,ty,pos,af,g⟩ [a] v:=by
 unfold H2 at h;split at h
 ·rename_i i id gen N k L r W Q;obtain⟨S,y,n⟩:=(X _ _ Q).agg;split at h
  ·rename_i A m B e R C;split at h
   ·rename_i w;split at h
    ·rename_i c F G;split at h
     ·rename_i b;cases h;obtain⟨rfl,p,s,_⟩:=o;exact E7 _ _ _ _ _ A m _ e R r c _ y (n.trans w) C p s F (.inr ⟨λv=>Np G _ _,b,rfl⟩)
     cases h
    ·rename_i c T U F G;cases h;obtain⟨rfl,p,s,rfl,_⟩:=o;exact E7 _ _ _ _ _ A m _ e _ r c _ y (n.trans w) C p s F (.inl (Gg G))
    cases h
   rename_i w;split at h
   ·rename_i l f G;cases h;obtain⟨rfl,p,s,K⟩:=o;obtain⟨D,I⟩:=xp G K;exact L3 _ _ _ _ _ A m _ e R r _ y (n.trans w) C p s (eO f) (by simp[D]) I
   cases h
  cases h
 ·rename_i i id gen N k L q r W Q;obtain⟨S,y,n⟩:=(X _ _ Q).agg;split at h
  ·rename_i A m B e R C;split at h
   ·rename_i c T eH U w F K;cases h;obtain⟨rfl,p,s,rfl,rfl,_⟩:=o;exact E7 _ _ _ _ _ A m _ e _ r c _ y (n.trans w) C p s F (.inl (bx K))
   ·rename_i w;split at h
    ·rename_i l f G;cases h;obtain⟨rfl,p,s,K⟩:=o;obtain⟨D,I⟩:=xp G K;exact L3 _ _ _ _ _ A m _ e R r _ y (n.trans w) C p s (eO f) (by simp[D]) λj v bW=>fq (I j v bW)
    cases h
   cases h
  cases h
 ·rename_i i id gen N k L q r W Q;obtain⟨S,y,n⟩:=(X _ _ Q).agg;split at h
  ·rename_i A m B e R C;split at h
   ·rename_i c w F b;cases h;obtain⟨rfl,p,s,K⟩:=o;exact E7 _ _ _ _ _ A m _ e _ r c _ y (n.trans w) C p s F (.inr ⟨x2 K,b,rfl⟩)
   cases h
  cases h
 cases h
theorem ZG(C:ek P cq){k:Nat}(h:H4 cq H t k a l=aa (v,m,c))(r:cy m):
  cc P H ⟨d,.fieldAddr t x k,ty,pos,af,g⟩ [a] v:=by
 unfold H4 at h;split at h
 ·cases h
 rename_i i K;split at h
 ·rename_i W L;obtain⟨s,y,A,_⟩:=(C _ _ K).st L;have w:P.underlying t=aa (.struct s):=y.1;split at h
  ·cases h
  rename_i F n;rw[<-A,eK] at n;cases q:s[k]? with
  |none=>rw[ra,q] at n;cases n
  |some Q=>
  rw[ra,q] at n;simp only[ht,Option.some.injEq] at n;subst n;split at h
  ·cases h
  rename_i j R;obtain⟨X,o,_⟩:=C _ _ R;split at h
  ·cases h
  rename_i G;have p:(j.size==0)=ak:=by
   rw[beq_eq_false_iff_ne];intro e;rw[e] at G;cases G
  split at h
  ·cases h;exact Xo _ _ _ _ _ _ _ _ _ _ _ w q rfl o p
  ·cases h;exact YN _ _ _ _ _ _ _ _ _ _ w q rfl o p
  ·split at h
   ·rename_i B;cases h;obtain⟨rfl,rfl,_⟩:=r;exact Xf _ _ _ _ _ _ _ _ _ _ _ _ _ _ w q rfl o p _ _ B
   ·rename_i B;cases h;obtain⟨rfl,_⟩:=r;exact Xg _ _ _ _ _ _ _ _ _ _ _ _ _ _ w q rfl o p _ B rfl
   cases h
  cases h
 cases h
theorem acQ(y:ek P cq){k:Nat}(h:IU cq t k a l=aa (v,e,c)):
  cc P H ⟨d,.field t x k,ty,pos,af,g⟩ [a] v:=by
 unfold IU at h;split at h
 ·cases h
 rename_i i B;split at h
 ·rename_i Q C;obtain⟨r,n,s,_⟩:=(y _ _ B).st C;split at h
  ·cases h
  rename_i A m;rw[<-s,eK] at m;cases q:r[k]? with
  |none=>rw[ra,q] at m;cases m
  |some F=>
  rw[ra,q] at m;simp only[ht,Option.some.injEq] at m;subst m;split at h
  ·cases h
  rename_i j G;obtain⟨R,o,p⟩:=(y _ _ G).agg;split at h
  ·split at h
   ·rename_i w;split at h
    ·rename_i K;cases h;exact Ox _ _ _ _ _ _ n q o (.inl ⟨p.trans w,K,rfl⟩)
    cases h
   rename_i w;split at h
   ·rename_i L;cases h;exact Ox _ _ _ _ _ _ n q o (.inr ⟨p.trans w,L⟩)
   cases h
  cases h
 cases h
theorem mC{n:Int}(h:0<=n):n=((n.toNat:Nat):Int):=O
theorem abV(G:ek P cq){o:List dE}(h:IQ cq H t a b c=aa (v,o,l))(q:cy o):
  cc P H ⟨d,.indexAddr t x y,ty,pos,af,g⟩ [a,b] v:=by
 unfold IQ at h;split at h
 ·cases h
 rename_i i f;split at h
 ·rename_i e K;have B:P.underlying t=aa (.slice e):=(G _ _ f).jn.2.2.2 e K;split at h
  ·cases h
  rename_i j L;obtain⟨D,C,_⟩:=G _ _ L;split at h
  ·rename_i p n;split at h
   ·rename_i r c;split at h
    ·rename_i w;cases h;obtain⟨Q,R⟩:=nE (show ax p n=aa r from q.1);rw[mC Q];exact YM _ _ _ _ _ _ B C R (de w)
    cases h
   cases h
  ·rename_i id gen size A len n;split at h
   ·rename_i s I p W w;cases h;obtain⟨rfl,rfl,⟨Q,R⟩,_⟩:=q;have X:n.toNat<len:=O
    have:=de w;subst this;have M:=Xm (P:=P) (H:=H) (d:=d) (ty:=ty) (pos:=pos) (af:=af) (g:=g) x y e id s A len n.toNat _ _ W B C X
    grind
   ·rename_i m s p N W w;cases h;obtain⟨rfl,⟨Q,R⟩,_⟩:=q;have X:n.toNat<len:=O
    have:=de w;subst this;have M:=Xe (P:=P) (H:=H) (d:=d) (ty:=ty) (pos:=pos) (af:=af) (g:=g) x y e id _ A len n.toNat _ W rfl B C X
    grind
   cases h
  cases h
 ·rename_i m e K;obtain⟨S,Z,F⟩:=G _ _ f;have B:P.underlying t=aa (.array m e):=by
   simp only[cu.is,K] at F;rw[<-F];exact Z.1
  split at h
  ·cases h
  rename_i j L;obtain⟨D,C,_⟩:=G _ _ L;split at h
  ·rename_i id A n k c;split at h
   ·rename_i w;cases h;rw[show n=(k:Int) from q.1];exact Xn _ _ _ _ _ _ _ B C (eO w)
   cases h
  cases h
 cases h
theorem ZF(k:ek P cq)(h:H3 cq t a b q=aa (v,e,p))(i:cy e):
  cc P H ⟨d,.index t x y,ty,pos,af,g⟩ [a,b] v:=by
 unfold H3 at h;split at h
 ·rename_i l n c q m;cases h;obtain⟨o,r⟩:=nE (show ax l n=aa c from i.1);rw[mC o];exact aaj _ _ _ _ _ (GL k m) r
 cases h
theorem abS(o:ek P cq)(h:IE cq H t a l=aa (v,m,c))(i:cy m):
  cc P H ⟨d,.call {callee:= .builtin .len,args:= #[x],argTypes:= #[t]},ty,pos,af,g⟩ [a] v:=by
 unfold IE at h;split at h
 ·split at h
  ·rename_i k;cases h;exact Z7 _ _ (GL o k)
  cases h
 ·split at h
  ·rename_i k;cases h;obtain⟨e,n⟩:=Ca o k;have q:=i.1;rw[<-q];exact aal _ _ _ n
  cases h
 ·split at h
  ·rename_i p k;cases h;obtain⟨rfl,rfl,rfl,_⟩:=i;obtain⟨e,n⟩:=Ca o k;exact Z8 _ _ _ _ _ _ _ n _ _ p
  ·rename_i p k;cases h;obtain⟨rfl,rfl,_⟩:=i;obtain⟨e,n⟩:=Ca o k;exact YL _ _ _ _ _ _ _ n _ p rfl
  cases h
 cases h
theorem ZD(K:ek P cq){y A:Option Operand}{B:List V}{f S:List cB}{ng:List dE}(h:H0 cq H t y A B f=aa (v,ng,S))(n:cy ng):
  cc P H ⟨d,.slice t x y A aj,ty,pos,af,g⟩ B v:=by
 unfold H0 at h;split at h
 ·rename_i l I;split at h
  ·rename_i a b r f T c;cases h;obtain⟨k,U,M,rfl⟩:=BG n.1;have p:=GL K T;unfold ta at c;split at c
   ·cases c;rw[mC k,mC (O:0<=b)];exact Xi _ _ _ _ _ _ p O O
   ·cases c
    have:=Vh (P:=P) (H:=H) (d:=d) (ty:=ty) (pos:=pos) (af:=af) (g:=g) x ‹_› l a.toNat p O;rw[<-mC k] at this;simpa using this
   ·cases c
    have:=VD (P:=P) (H:=H) (d:=d) (ty:=ty) (pos:=pos) (af:=af) (g:=g) x ‹_› l b.toNat p O
    grind
   cases c
  cases h
 ·rename_i C I;split at h
  ·cases h
  rename_i i L;split at h
  ·rename_i e hu;have p:P.underlying t=aa (.slice e):=(K _ _ L).jn.2.2.2 e hu;split at h
   ·rename_i j a b r f Q c;cases h;obtain⟨D,F,_⟩:=n;obtain⟨k,U,M,rfl⟩:=BG D;obtain⟨r0,s,_⟩:=K _ _ Q;unfold ta at c;split at c
    ·cases c;rw[mC k,mC (O:0<=b)];exact Y4 _ _ _ _ _ _ _ p s O O F
    ·cases c
     have:=Vt (P:=P) (H:=H) (d:=d) (ty:=ty) (pos:=pos) (af:=af) (g:=g) x ‹_› e C a.toNat p s O F;rw[<-mC k] at this;simpa using this
    ·cases c
     have:=WI (P:=P) (H:=H) (d:=d) (ty:=ty) (pos:=pos) (af:=af) (g:=g) x ‹_› e C b.toNat p s O F
     grind
    cases c
   cases h
  cases h
 ·rename_i id alM sz R q I;split at h
  ·rename_i i mE L N;split at h
   ·rename_i e hu;have p:P.underlying t=aa (.slice e):=(K _ _ L).jn.2.2.2 e hu;obtain⟨Jf,hH,N⟩:=Option.bind_eq_some_iff.1 N;have W: ∀{a b:Int},ta y A q I=aa (a,b)->0<=a->0<=b-> ∀β w X (G:Operand->Value),dH β w X I (y.toList.map G++A.toList.map G)->rC q y A G a.toNat b.toNat:=by
     intro a b c D k β w X G F;unfold ta at c;split at c
     ·cases c;refine⟨?_,?_⟩
      ·show G _=_;rw[zX D];exact dP F.1
      show G _=_;rw[zX k];exact dP F.2.1
     ·cases c;refine⟨?_,by show _=_;simp⟩;show G _=_;rw[zX D];exact dP F.1
     ·cases c;refine⟨by show _=_;simp,?_⟩;show G _=_;rw[zX k];exact dP F.1
     cases c
    split at h
    ·rename_i j a b o m f Q c;cases h;obtain⟨rfl,rfl,⟨k,U,M,h4,rfl,rfl⟩,_⟩:=n;obtain⟨r0,s,_⟩:=K _ _ Q;exact aeD x y A e id _ R q a.toNat b.toNat Jf hH N p s O O O (W c k O)
    ·rename_i j a b f Q c;cases h;obtain⟨rfl,⟨k,rfl,M⟩,_⟩:=n;obtain⟨r0,s,_⟩:=K _ _ Q;exact acv x y A e id _ _ R q a.toNat Jf hH N p s O (W c k k)
    ·rename_i j a b o m f Q c;split at h
     ·rename_i Z;cases h;obtain⟨rfl,rfl,rfl,⟨D,k,U,M,rfl,rfl⟩,_⟩:=n;obtain⟨r0,s,_⟩:=K _ _ Q;exact acu x y A e _ id _ R q a.toNat b.toNat _ Z p s D O O (W c k O)
     cases h
    cases h
   cases h
  cases h
 cases h
theorem YA(B:ek P cq){m n:Operand}{k:List V}(h:Hr cq H t k p=aa (v,r,l))(o:cy r):
  cc P H ⟨d,.slice t x (aa y) (aa m) (aa n),ty,pos,af,g⟩ k v:=by
 unfold Hr at h;split at h
 ·rename_i id W X q s a b c;split at h
  ·rename_i i Z w A;split at h
   ·rename_i e C;have F:P.underlying t=aa (.slice e):=(B _ _ w).jn.2.2.2 e C;obtain⟨G,K,A⟩:=Option.bind_eq_some_iff.1 A;split at h
    ·rename_i j L;cases h;obtain⟨rfl,⟨Q,f,D,I⟩,_⟩:=o;obtain⟨M,R,_⟩:=B _ _ L;rw[mC Q,mC (O:0<=b),mC (O:0<=c)];exact aai x y m n e id _ _ q s a.toNat b.toNat c.toNat G K A F R O O O
    cases h
   cases h
  cases h
 cases h
theorem aav(o:ek P cq){m:Operand}{a:List V}(h:Ik cq t a l=aa (v,r,c))(k:cy r):
  cc P H ⟨d,.slice t x aj (aa y) (aa m),ty,pos,af,g⟩ a v:=by
 unfold Ik at h;split at h
 ·split at h
  ·rename_i i n;split at h
   ·rename_i e p;have q:P.underlying t=aa (.slice e):=(o _ _ n).jn.2.2.2 e p;split at h
    ·rename_i j s;cases h;obtain⟨⟨w,rfl⟩,A,_⟩:=k;obtain⟨F,G,B,rfl⟩:=BG w;obtain⟨K,C,_⟩:=o _ _ s
     have:=Xa (P:=P) (H:=H) (d:=d) (ty:=ty) (pos:=pos) (af:=af) (g:=g) x y m e _ _ q C (Int.toNat_le.2 B) A
     grind
    cases h
   cases h
  cases h
 cases h
theorem XF(o:ek P cq){b:Builtin}{c:List TypeId}{e:List Operand}{a:List V}(h:Gu cq H b c e a n=aa (v,m,l))(i:cy m):
  cc P H ⟨d,.call {callee:= .builtin b,args:=e.toArray,argTypes:=c.toArray},ty,pos,af,g⟩ a v:=by
 unfold Gu at h;split at h
 ·exact abS o h i
 ·split at h
  ·rename_i k;subst k;cases h;exact afX _ _ _ _ _ _
  cases h
 ·split at h
  ·rename_i k;subst k;cases h;exact afW _ _ _ _ _ _
  cases h
 cases h
theorem ab9(h:IM H a l=aa (v,e,c))(i:cy e):cc P H ⟨d,.nilCheck x,ty,pos,af,g⟩ [a] v:=by
 unfold IM at h;split at h
 ·split at h
  ·rename_i o k;cases h;obtain⟨rfl,_⟩:=i;obtain⟨m,n,k⟩:=Option.bind_eq_some_iff.1 k;exact Xl _ _ _ _ _ _ m n k
  cases h
 ·cases h;exact MI _ _ rfl
 ·cases h;exact MI _ _ rfl
 ·cases h;exact Xk _ _ _
 cases h
theorem Zh(p:ek P cq){c:Array (Nat×Operand)}{a:List V}(h:H6 cq t (c.toList.map (·.1)) a n=aa (v,e,l)):
  cc P H ⟨d,.build t c,ty,pos,af,g⟩ a v:=by
 unfold H6 at h;split at h
 ·cases h
 rename_i i q;split at h
 ·rename_i y r;split at h
  ·rename_i cs s w x;cases h;obtain⟨k,m,_,o⟩:=(p _ _ q).st r;exact acz c k i.places a cs m o s (by simpa using w) x
  cases h
 cases h
theorem ae2(k:ek P cq){e:Op}{a:List V}(h:yG P cq H e a n=aa (v,m,l))(i:cy m):
  cc P H ⟨d,e,ty,pos,af,g⟩ a v:=by
 unfold yG at h;split at h
 ·split at h
  ·cases h;exact aeM _ _
  cases h
 ·split at h
  ·cases h;exact aan _ _
  cases h
 ·split at h
  ·rename_i b v w c n;cases h;obtain⟨s,_⟩:=i;subst s;cases b
   ·exact Xb _ _ _ _ _
   exact Xj _ _ _ _ _
  cases h
 ·split at h
  ·split at h
   ·rename_i x;cases h;exact Om k x i
   exact ZE k h i
  cases h
 ·split at h
  ·exact ab9 h i
  cases h
 ·split at h
  ·split at h
   ·rename_i r p;cases h;exact acT k p i
   split at h
   ·rename_i r p;cases h;exact abU k p
   exact ab8 k h i
  cases h
 ·split at h
  ·exact adZ h
  cases h
 ·split at h
  ·exact aau k h i
  cases h
 ·rename_i C first q
  split at h
  ·rename_i f y;cases h
   have:first= #[]:=by simpa using y
   subst this;exact Y6 _ _ _
  cases h
 ·split at h
  ·exact ZD k h i
  split at h
  ·exact YA k h i
  ·exact aav k h i
  cases h
 ·split at h
  ·exact ZG k h i
  cases h
 ·split at h
  ·exact acQ k h
  cases h
 ·split at h
  ·exact abV k h i
  cases h
 ·split at h
  ·exact ZF k h i
  cases h
 ·split at h
  ·split at h
   ·rename_i A;cases h;exact Z9 _ _ _ _ A
   cases h
  cases h
 ·exact Zh k h
 ·rename_i c;obtain⟨o,args,B⟩:=c;dsimp only at h;split at h
  ·have:=XF (d:=d) (ty:=ty) (pos:=pos) (af:=af) (g:=g) k h i;simpa using this
  cases h
 cases h
end
section
def lP(P:Program)(G:fL)(f:FuncId)(args:List V)(r:V):Prop:=jZ P f/\F0 P G f args r
def jU(P:Program)(G:fL)(f:FuncId)(a:List E)(args:List V)(r:V)(c:List E):Prop:=
 jZ P f/\LL P G f a args (ι:=Unit) (λ_=>True) (λ_=>r) λ_=>c
def fK(d:Option Tmp)(v:V):List (Nat×V):=match d with
 |some d=>[(d,v)]
 |none=>[]
def kO(a:Nat):Option Tmp->Bool
 |some d=>dt d a
 |none=>ab
theorem hY{K:Ctx}{d:Option Tmp}(h:kO K.nt d=ab): ∀i,d=aa i->dt i K.nt=ab:=by intro i a;subst a;exact h
def jK:T->T
 | .fT=> .bD []
 |x=>x
variable {w:World}{X:Nat->Prop}{m:Nat}
theorem df.zr{x:T}{v:Value}(h:df w X x v):df w X (jK x) v:=by
 cases h with
 |fT=>exact .gW _ _
 |bool b=>exact .bool b
 |int k n=>exact .int k n
 |str l=>exact .str l
 |gW a c=>exact .gW a c
 |bD e b m size c f p q i o r y=>exact .bD e b m size c f p q i o r y
 |iz=>exact .iz
 |hl=>exact .hl
 |oz=>exact .oz
 |err t v=>exact .err t v
theorem acM{W:Map}{k:Nat}{c:TypeId}{gen n:Nat}{z:List T}(h:cX W w X k (.arr c gen n (dA m z))):cX W w X k (.arr c gen n (dA m (z.map jK))):=by
 refine⟨h.1,?_⟩;rcases h.2 with ⟨q,l⟩|⟨b,r,q,l,A,F,B⟩
 ·have:m=0:=by simpa using l
  grind
 refine .inr ⟨b,r,q,l,by simpa using A,λo a=>?_,λi j o x u a e C=>?_⟩
 ·obtain⟨G,rfl⟩:=uF.1 a
  grind
 rw[uE] at a;split at a
 ·cases a;rw[eK] at e;cases p:z[j]? with
  |none=>rw[p] at e;simp at e
  |some y=>
   rw[p] at e;simp at e;subst e;exact(B i j z y u (by rw[uE,aR ‹_›]) p C).zr
 cases a
def mi(a:Nat):Nat->List T->List (List T)
 |0,_=>[]
 |n+1,l=>l.take a::mi a n (l.drop a)
theorem BS(a:Nat): ∀(n:Nat) (l:List T),l.length=n*a->(mi a n l).length=n/\(∀c,c∈mi a n l->c.length=a)/\(mi a n l).flatten=l
 |0,l,h=>by
  have:l=[]:=by simpa using h
  subst this;exact⟨rfl,λ_ h=>by simp[mi] at h,rfl⟩
 |n+1,l,h=>by
  rw[eu] at h;obtain⟨e,i,k⟩:=BS a n (l.drop a) bP;refine⟨by simp[mi,e],?_,by simp[mi,k]⟩;intro c b7;simp only[mi,List.mem_cons] at b7;rcases b7 with rfl|b7
  ·simp;omega
  exact i c b7
structure eb where
 P:Program
 G:fL
 cq:List (Nat×cu)
 nt:Nat
 dV:Nat
 ha:Map
def vl(a:Nat):List Nat->Nat->Option Nat
 | [],_=>aj
 |x::r,k=>bif b5 x a then aa k else vl a r (k+1)
theorem BK{i:Nat}: ∀{L:List Nat} {k m:Nat},vl i L k=aa m->k<=m/\L[m-k]? =aa i
 | [],_,_,h=>by cases h
 |x::r,k,m,h=>by
  simp only[vl] at h;cases a:b5 x i with
  |true=>rw[a] at h;cases h;rw[de a];exact⟨cR _,aX⟩
  |false=>
   rw[a] at h;obtain⟨e,c⟩:=BK (L:=r) (k:=k+1) h;refine⟨O,?_⟩;rw[show m-k=(m-(k+1))+1 by omega];simpa using c
mutual
def uD(L:List Nat):V->Option V
 | .ref id a=>match vl id L 0 with
  |some k=>aa (.ref k a)
  |none=>aj
 | .bf id gen size a c=>match vl id L 0 with
  |some k=>aa (.bf k gen size a c)
  |none=>aj
 | .fn f cs=>match uC L cs with
  |some cs=>aa (.fn f cs)
  |none=>aj
 | .cK id gen size i a=>match vl id L 0 with
  |some k=>aa (.cK k gen size i a)
  |none=>aj
 | .t x=>aa (.t x)
 | .aS x=>aa (.aS x)
 | .agg cs=>match uC L cs with
  |some cs=>aa (.agg cs)
  |none=>aj
 |_=>aj
def uC(L:List Nat):List V->Option (List V)
 | []=>aa []
 |c::cs=>match uD L c,uC L cs with
  |some c,aa cs=>aa (c::cs)
  |_,_=>aj
end
mutual
theorem aex{L:List Nat}: ∀(v e:V),uD L v=aa e->e.eB L=v/\e.ok (fA L.length)=ab
 | .ref id n,e,h=>by
  simp only[uD] at h;split at h
  ·rename_i k o;cases h;obtain⟨_,a⟩:=BK o;simp only[Nat.sub_zero] at a;have c:=(bR.1 a).1;exact⟨by simp[V.eB,List.getD_eq_getElem?_getD,a],jW.2 c⟩
  cases h
 | .bf id gen size n q,e,h=>by
  simp only[uD] at h;split at h
  ·rename_i k o;cases h;obtain⟨_,a⟩:=BK o;simp only[Nat.sub_zero] at a;have c:=(bR.1 a).1;exact⟨by simp[V.eB,List.getD_eq_getElem?_getD,a],jW.2 c⟩
  cases h
 | .cK id gen size i n,e,h=>by
  simp only[uD] at h;split at h
  ·rename_i k o;cases h;obtain⟨_,a⟩:=BK o;simp only[Nat.sub_zero] at a;have c:=(bR.1 a).1;exact⟨by simp[V.eB,List.getD_eq_getElem?_getD,a],jW.2 c⟩
  cases h
 | .fn f cs,e,h=>by
  simp only[uD] at h;split at h
  ·rename_i l m;cases h;obtain⟨p,a⟩:=x' cs l m;exact⟨by simp[V.eB,p],by simpa[V.ok] using a⟩
  cases h
 | .agg cs,e,h=>by
  simp only[uD] at h;split at h
  ·rename_i l m;cases h;obtain⟨p,a⟩:=x' cs l m;exact⟨by simp[V.eB,p],by simpa[V.ok] using a⟩
  cases h
 | .t x,e,h=>by cases h;exact⟨rfl,rfl⟩
 | .aS x,e,h=>by cases h;exact⟨rfl,rfl⟩
 | .bL _,_,h| .dh,_,h=>by cases h
theorem x'{L:List Nat}: ∀(cs a:List V),uC L cs=aa a->jJ L a=cs/\hh (fA L.length) a=ab
 | [],_,h=>by cases h;exact⟨rfl,rfl⟩
 |c::cs,a,h=>by
  simp only[uC] at h;split at h
  ·rename_i i e k l;cases h;obtain⟨aL,a2⟩:=aex c i k;obtain⟨m,n⟩:=x' cs e l;exact⟨by simp[jJ,aL,m],by simp[hh,a2,n]⟩
  cases h
end
def vk(L:List Nat)(H:Nat->Option E):List Nat->Option (List E)
 | []=>aa []
 |id::c=>match H id with
  |some (.cells cs)=>match uC L cs,vk L H c with
   |some cs,aa e=>aa (.cells cs::e)
   |_,_=>aj
  |some (.arr ty gen size a)=>match vk L H c with
   |some e=>aa (.arr ty gen size a::e)
   |none=>aj
  |some (.a7 h m gen a [])=>match vk L H c with
   |some e=>aa (.a7 h m gen a []::e)
   |none=>aj
  |some (.a7 _ _ _ _ (_::_))=>aj
  |none=>aj
theorem BJ{L:List Nat}{H:Nat->Option E}: ∀(a:List Nat) (hL:List E),vk L H a=aa hL->hL.length=a.length/\ ∀(k:Nat) (e:E),hL[k]? =aa e-> ∃id,a[k]? =aa id/\H id=aa (e.eB L)/\e.ok (fA L.length)=ab
 | [],_,h=>by cases h;exact⟨rfl,λk e h=>by simp at h⟩
 |id::a,hL,h=>by
  simp only[vk] at h;split at h
  ·rename_i cs hid;split at h
   ·rename_i r l w n;cases h;obtain⟨aL,a2⟩:=BJ a l n;obtain⟨x,y⟩:=x' cs r w;refine⟨by simp[aL],λk e c=>?_⟩;cases k with
    |zero=>simp at c;subst c;exact⟨id,rfl,by rw[hid];simp only[E.eB,x],y⟩
    |succ k=>simp at c;obtain⟨i,o,p⟩:=a2 k e c;exact⟨i,by simpa using o,p⟩
   cases h
  ·rename_i ty gen size q hid;split at h
   ·rename_i l n;cases h;obtain⟨aL,a2⟩:=BJ a l n;refine⟨by simp[aL],λk e c=>?_⟩;cases k with
    |zero=>simp at c;subst c;exact⟨id,rfl,hid,rfl⟩
    |succ k=>simp at c;obtain⟨i,o,p⟩:=a2 k e c;exact⟨i,by simpa using o,p⟩
   cases h
  ·rename_i A m gen q hid;split at h
   ·rename_i l n;cases h;obtain⟨aL,a2⟩:=BJ a l n;refine⟨by simp[aL],λk e c=>?_⟩;cases k with
    |zero=>simp at c;subst c;exact⟨id,rfl,hid,rfl⟩
    |succ k=>simp at c;obtain⟨i,o,p⟩:=a2 k e c;exact⟨i,by simpa using o,p⟩
   cases h
  ·cases h
  cases h
def CW(a:Nat):List Nat->Bool
 | []=>ab
 |x::l=>bif b5 x a then ak else CW a l
theorem NH{i:Nat}: ∀{l:List Nat},CW i l=ab->i∉l
 | [],_,h=>by cases h
 |x::l,h,hm=>by
  simp only[CW] at h;cases a:b5 x i with
  |true=>rw[a] at h;cases h
  |false=>
   rw[a] at h;rcases ez.1 hm with rfl|hm
   ·simp at a
   exact NH h hm
def CL:List Nat->Bool
 | []=>ab
 |x::l=>CW x l&&CL l
theorem Bf: ∀{l:List Nat},CL l=ab->l.Nodup
 | [],_=>List.nodup_nil
 |x::l,h=>by simp only[CL,b9] at h;exact List.nodup_cons.2 ⟨NH h.1,Bf h.2⟩
def Cd(u:Nat->Bool):List Nat->Bool
 | []=>ab
 |x::l=> !u x&&Cd u l
theorem Mt{u:Nat->Bool}: ∀{l:List Nat},Cd u l=ab-> ∀id,id∈l->u id=ak
 | [],_,_,h=>by cases h
 |x::l,h,id,hm=>by
  simp only[Cd,b9,Bool.not_eq_true'] at h;rcases ez.1 hm with rfl|hm
  ·exact h.1
  exact Mt h.2 id hm
theorem MJ{u:Nat->Bool}{i:Nat}: ∀{l:List Nat},i∈l->dw u (l.map λk=>(k,ab)) i=ab
 |x::l,h=>by
  simp only[gd,dw];by_cases a:i∈l
  ·rw[Cr _ _ u _ ⟨ab,eA.2 ⟨i,a,rfl⟩⟩];exact MJ a
  rcases ez.1 h with rfl|h
  ·rw[nA _ _ _ (λv c=>a (by obtain⟨y,m,e⟩:=eA.1 c;cases e;exact m)),cd]
  exact bB h a
theorem MH{R:Type}: ∀(L:List Nat),L.Nodup-> ∀(f:Nat->R) (a:List R) (g:Nat->R),a.length=L.length->(∀(k:Nat) x,a[k]? =aa x->g k=x)->dw f (L.zip a)=l3 f L g
 | [],_,f,a,g,_,_=>by simp[dw,l3]
 |l::L,c,f,[],g,h,_=>by simp at h
 |l::L,c,f,x::a,g,h,n=>by
  simp only[List.nodup_cons] at c;simp only[List.zip_cons_cons,dw,l3];rw[MH L c.2 (a8 f l x) a (λk=>g (k+1)) (by simpa using h) (λk y p=>n (k+1) y (by simpa using p)),n 0 x rfl];funext i;by_cases e:i=l
  ·subst e;rw[oo c.1,cd,cd]
  rw[cb _ _ _ _ e];by_cases m:i∈L
  ·obtain⟨k,o⟩:=jO.1 m;rw[pf c.2 o,pf c.2 o]
  rw[oo m,oo m,cb _ _ _ _ e]
abbrev jT:=Option (c8×List dE×List cB)
def vq(d:Option Tmp)(u:Nat->Bool)(v:V)(a:List cB):jT:=
 match a with
 | .nat k::a=>match u k,v.val with
  |false,ab=>aa (⟨fK d (.ref k 0),[(k,aa (.cells v.cs))],[(k,ab)]⟩,[],a)
  |_,_=>aj
 |_=>aj
def Im(d:Option Tmp)(v:V)(a:List cB):jT:=
 match a with
 | .b ab::a=>match (oA v).val,mw (oA v).cs with
  |true,aa c=>aa (⟨fK d (.aS c),[],[]⟩,[],a)
  |_,_=>aj
 |_=>aj
def S4:List cB->Bool
 | .b ab::_=>ab
 |_=>ak
def HZ(C:eb)(t:TypeId)(H:Nat->Option E)(a v:V)(o:List cB):jT:=
 match dL C.cq t with
 |none=>aj
 |some i=>match a with
  | .ref id c=>match H id with
   |some (.cells cs)=>match v.val,oN v.cs,b5 v.cs.length i.size,db (c+i.size) cs.length with
    |true,ab,ab,ab=>aa (⟨[],[(id,aa (.cells (nO cs c v.cs)))],[]⟩,[],o)
    |_,_,_,_=>aj
   |_=>aj
  | .cK id gen x k c=>match H id,mw (oA v).cs,o with
   |some (.arr e l n m),aa w,.row r:: .rows h::o=>match (oA v).val,b5 w.length i.size,db (c+i.size) x with
    |true,ab,ab=>aa (⟨[],[(id,aa (.arr e l n h))],[]⟩,
      [.q l gen,.q n x,.p (m[k]? =aa r),.p (h=m.set k (r.take c++w++r.drop (c+w.length)))],o)
    |_,_,_=>aj
   |_,_,_=>aj
  |_=>aj
def vn(k a n:Nat):List (Nat×Nat×V)->List dE
 | []=>[]
 |h::c=>bif db a h.2.1&&dt h.2.1 (a+n) then .q h.1 k::vn k a n c else vn k a n c
def vo(k a n:Nat):List (Nat×Nat×V)->List dE
 | []=>[]
 |h::c=>bif db a h.2.1&&dt h.2.1 (a+n) then .p (h.1≠k)::vo k a n c else vo k a n c
def Hq(C:eb)(t:TypeId)(H:Nat->Option E)(a v:V)(w:List cB):jT:=
 match dL C.cq t,a,w with
 |some i,.cK id gen y k c,.row r::w=>match H id with
  |some (.a7 x m e h o)=>match v.val&&(oN v.cs&&(b5 v.cs.length i.size&&(db (c+i.size) r.length&&dt 0 i.size))),sX o c i.size with
   |true,aa l=>aa (⟨[],[(id,aa (.a7 x m e h (vp c v.cs o)))],[]⟩,.q e gen:: .q (aU x m).size y:: .p (h[k]? =aa r)::(s0 k l++vn k c i.size o),w)
   |_,_=>aj
  |_=>aj
 |some i,.cK id gen y k c,.int q:: .nat n:: .row r::w=>match H id with
  |some (.a7 x m e h o)=>match v.val&&(oN v.cs&&(b5 v.cs.length i.size&&(db (c+i.size) r.length&&dt 0 i.size))),sX ((o.drop q.toNat).take n) c i.size with
   |true,aa l=>aa (⟨[],[(id,aa (.a7 x m e h (o.take q.toNat++(vp c v.cs ((o.drop q.toNat).take n)++(o.drop q.toNat).drop n))))],[]⟩,
     .q e gen:: .q (aU x m).size y:: .p (h[k]? =aa r)::(s0 k l++(vn k c i.size ((o.drop q.toNat).take n)++(vo k c i.size (o.take q.toNat)++vo k c i.size ((o.drop q.toNat).drop n)))),w)
   |_,_=>aj
  |_=>aj
 |_,_,_=>aj
def yf(z:List T):List (Nat×Nat)->Bool
 | []=>ab
 |p::l=>(match z[p.1]? with|some .fT=>ab|_=>ak)&&yf z l
def Ix(C:eb)(d:Option Tmp)(t:TypeId)(u:Nat->Bool)(v w:V)(c:List cB):jT:=
 match dL C.cq t with
 |none=>aj
 |some i=>match i.u with
  | .slice e=>match dL C.cq e with
   |none=>aj
   |some j=>match v,w,c,mw (hV j.z).cs with
    | .t (.int .i64 n),.t (.int .i64 m),.nat k:: .rows R::c,aa a=>match u k,(hV j.z).val,b5 a.length j.size,dt 0 j.size&&db j.bytes 200000 with
     |false,ab,ab,ab=>aa (⟨fK d (.bf k 1 j.size 0 R.length),[(k,aa (.arr e 1 j.size R))],[(k,ab)]⟩,[.q n.toNat m.toNat,.p (mk n (a.map jK)=aa R),.p (0<=m)],c)
     |_,_,_,_=>aj
    | .t (.int .i64 n),.t (.int .i64 m),.nat k:: .ei _ h q:: .rows R::c,aa a=>match u k,(hV j.z).val&&yf a (aU h q).bj,b5 a.length j.size,dt 0 j.size&&db j.bytes 200000 with
     |false,ab,ab,ab=>aa (⟨fK d (.bf k 1 j.size 0 R.length),[(k,aa (.a7 h q 1 R []))],[(k,ab)]⟩,[.q (aU h q).ty e,.q (aU h q).size j.size,.q n.toNat m.toNat,.p (mk n (a.map jK)=aa R),.p (0<=m)],c)
     |_,_,_,_=>aj
    |_,_,_,_=>aj
  |_=>aj
def Hs(C:eb)(d:Option Tmp)(t x:TypeId)(H:Nat->Option E)(v w:V)(m:List cB):jT:=
 match dL C.cq t with
 |none=>aj
 |some i=>match i.u with
  | .slice e=>match dL C.cq e with
   |none=>aj
   |some j=>match v,oA w,m with
    | .bf k gen size n o,.t (.bD l),.rows R::m=>match H k with
     |some (.arr r a c h)=>match b5 n 0,b5 j.z.cells.size j.size&&(dt 0 j.size&&db j.bytes 140000),b5 r e&&b5 x t with
      |true,ab,ab=>aa (⟨fK d (.bf k (a+1) size 0 R.length),[(k,aa (.arr r (a+1) c R))],[]⟩,
        [.q a gen,.q c size,.q size j.size,.q o h.length,.p (app h l=aa R),.p (Rows j.size h),.p (Rows j.size l)],m)
      |_,_,_=>aj
     |_=>aj
    |_,_,_=>aj
  |_=>aj
def Gv(C:eb)(d:Option Tmp)(t B:TypeId)(H:Nat->Option E)(v w:V)(x:List cB):jT:=
 match dL C.cq t with
 |none=>aj
 |some i=>match i.u with
  | .slice e=>match dL C.cq e with
   |none=>aj
   |some j=>match v,w,x with
    | .bf k gen size o l,.bf ey Q W F y,.rows R::x=>match H k,H ey with
     |some (.a7 A m c a []),aa (.a7 G b L (X::n) r)=>match b5 o 0&&b5 F 0,b5 j.z.cells.size j.size&&(dt 0 j.size&&db j.bytes 140000),b5 B t&&(sN (aU A m) (n.length+1) r&&u6 r) with
      |true,ab,ab=>aa (⟨fK d (.bf k (c+1) size 0 R.length),[(k,aa (.a7 A m (c+1) R (ja a.length r)))],[]⟩,
        [.q c gen,.q L Q,.q W size,.q size j.size,.q (aU A m).size size,.q (aU A m).ty e,.q y (n.length+1),.q l a.length,.p (aU G b=aU A m),.p (app a (X::n)=aa R),.p (Rows j.size a),.p (Rows j.size (X::n))],x)
      |_,_,_=>aj
     |some (.arr Z c h a),aa _=>match b5 ey k&&b5 o 0,b5 Z e&&(b5 B t&&dt 0 j.size) with
      |true,ab=>aa (⟨fK d (.bf k gen size 0 (l+y)),[(k,aa (.arr Z c h R))],[]⟩,
        [.q c gen,.q Q gen,.q h size,.q W size,.q j.size size,.p (l+y<=a.length),.p (F+y<=a.length),.p (R=a.take l++(a.drop F).take y++a.drop (l+y))],x)
      |_,_=>aj
     |_,_=>aj
    | .bf k gen size o l,.t (.bD []),.int 0::x=>match H k with
     |some (.arr _ c h _)=>match b5 o 0&&dt 0 j.size,b5 B t with
      |true,ab=>aa (⟨fK d (.bf k gen size 0 l),[],[]⟩,[.q c gen,.q h size,.q j.size size],x)
      |_,_=>aj
     |_=>aj
    |_,_,_=>aj
  |_=>aj
def xz(d:dB):Nat->List V->Option (List T×List (Nat×Nat×V))
 |_,[]=>aa ([],[])
 |j,v::c=>match xz d (j+1) c with
  |none=>aj
  |some (r,a)=>match d.eU j with
   |some _=>bif v.one then aa (.bD []::r,(0,j,v)::a) else aj
   |none=>match zP v with
    |some x=>aa (x::r,a)
    |none=>aj
def rp:Nat->List V->List (Nat×Nat×V)
 |_,[]=>[]
 |i,v::vs=>(i,0,v)::rp (i+1) vs
def Iy(C:eb)(d:Option Tmp)(t:TypeId)(n:Nat)(l:List Nat)(u:Nat->Bool)(a:List V)(h:List cB):jT:=
 match dL C.cq t with
 |none=>aj
 |some i=>match i.u with
  | .slice e=>match dL C.cq e with
   |none=>aj
   |some j=>match n,h with
    |1,.lt k c m::h=>match lL (λi=>aa (i*j.size,j.size)) (dA (1*j.size) .dh) (l.zip (vv ((aU c m).eU 0) a)) with
     |none=>aj
     |some cs=>match xz (aU c m) 0 cs with
      |none=>aj
      |some (r,o)=>match u k,b5 cs.length j.size&&b5 (aU c m).size j.size,b5 l.length a.length&&b5 (aU c m).ty e,db (1*j.size) 16777216,dt 0 j.size with
       |false,ab,ab,ab,ab=>aa (⟨fK d (.bf k 1 j.size 0 1),[(k,aa (.a7 c m 1 [r] o))],[(k,ab)]⟩,[],h)
       |_,_,_,_,_=>aj
    |n,.lt k c m::h=>match lL (λi=>aa (i*j.size,j.size)) (dA (n*j.size) .dh) (l.zip (ib a)) with
     |none=>aj
     |some cs=>match u k,b5 j.size 1&&(b5 cs.length n&&oN cs),b5 l.length a.length&&(b5 (aU c m).ty e&&b5 (aU c m).size 1),db (n*j.size) 16777216,dt 0 n with
      |false,ab,ab,ab,ab=>aa (⟨fK d (.bf k 1 1 0 n),[(k,aa (.a7 c m 1 (dA n [.bD []]) (rp 0 cs)))],[(k,ab)]⟩,[],h)
      |_,_,_,_,_=>aj
    |_,_=>aj
  |_=>aj
def ID(C:eb)(d:Option Tmp)(t:TypeId)(n:Nat)(c:List Nat)(u:Nat->Bool)(a:List V)(h:List cB):jT:=
 match dL C.cq t with
 |none=>aj
 |some i=>match i.u with
  | .slice e=>match dL C.cq e with
   |none=>aj
   |some j=>match n,c,h with
    |0,[],.nat k::h=>match u k with
     |false=>aa (⟨fK d (.bf k 1 j.size 0 0),[(k,aa (.arr e 1 j.size []))],[(k,ab)]⟩,[],h)
     |true=>aj
    |n,c,.int 1:: .nat k::h=>match lL (λi=>aa (i*j.size,j.size)) (dA (n*j.size) .dh) (c.zip (ib a)) with
     |none=>aj
     |some cs=>match mw cs with
      |none=>aj
      |some l=>match u k,b5 l.length (n*j.size),b5 c.length a.length,db (n*j.size) 16777216,dt 0 j.size with
       |false,ab,ab,ab,ab=>aa (⟨fK d (.bf k 1 j.size 0 (mi j.size n l).length),[(k,aa (.arr e 1 j.size (mi j.size n l)))],[(k,ab)]⟩,[],h)
       |_,_,_,_,_=>aj
    |n,c,.int 2:: .rows R::h=>match lL (λi=>aa (i*j.size,j.size)) (dA (n*j.size) .dh) (c.zip (ib a)) with
     |none=>aj
     |some cs=>match mw cs with
      |none=>aj
      |some l=>match b5 l.length (n*j.size),b5 c.length a.length,db (n*j.size) 16777216 with
       |true,ab,ab=>aa (⟨fK d (.t (.bD R)),[],[]⟩,[.p (mi j.size n l=R)],h)
       |_,_,_=>aj
    |n,c,.int 0::h=>match lL (λi=>aa (i*j.size,j.size)) (dA (n*j.size) .dh) (c.zip (ib a)) with
     |none=>aj
     |some cs=>match mw cs with
      |none=>aj
      |some l=>match b5 l.length (n*j.size),b5 c.length a.length,db (n*j.size) 16777216 with
       |true,ab,ab=>aa (⟨fK d (.t (.bD (mi j.size n l))),[],[]⟩,[],h)
       |_,_,_=>aj
    |_,_,_=>aj
  |_=>aj
mutual
def s8:V->Bool
 | .t (.int _ _)| .t (.bool _)| .t (.str _)=>ab
 | .agg cs=>vf cs
 | .bL cs=>vf cs
 |_=>ak
def vf:List V->Bool
 | []=>ab
 |c::cs=>s8 c&&vf cs
end
def yB(H:Nat->Option E):V->Option (T×List dE)
 | .bf k gen size h i=>match H k with
  |some (.arr _ c e a)=>aa (.bD a,[.q gen c,.q size e,.q h 0,.q i a.length])
  |some (.a7 l m c a [])=>aa (.bD a,[.q gen c,.q size (aU l m).size,.q h 0,.q i a.length])
  |_=>aj
 | .t x=>aa (jK x,[])
 |_=>aj
def C3(H:Nat->Option E):List V->Option (List T×List dE)
 | []=>aa ([],[])
 |v::a=>match yB H v,C3 H a with
  |some (x,c),aa (e,h)=>aa (x::e,c++h)
  |_,_=>aj
mutual
def n0(H:Nat->Option E):V->Option (V×List dE)
 | .bf k gen size c h=>match yB H (.bf k gen size c h) with
  |some (x,a)=>aa (.t x,a)
  |none=>aj
 | .t x=>aa (.t (jK x),[])
 | .aS cs=>aa (.aS cs,[])
 | .ref id c=>match H id with
  |some (.cells cs)=>match C3 H cs with
   |some (ga,a)=>aa (.aS (ga.drop c),a)
   |none=>aj
  |_=>aj
 | .agg cs=>match p6 H cs with
  |some (e,a)=>aa (.agg e,a)
  |none=>aj
 | .bL cs=>match p6 H cs with
  |some (e,a)=>aa (.bL e,a)
  |none=>aj
 | .fn f cs=>match p6 H cs with
  |some (e,a)=>aa (.fn f e,a)
  |none=>aj
 | .cK _ _ _ _ _=>aj
 | .dh=>aj
def p6(H:Nat->Option E):List V->Option (List V×List dE)
 | []=>aa ([],[])
 |v::a=>match n0 H v,p6 H a with
  |some (x,c),aa (e,h)=>aa (x::e,c++h)
  |_,_=>aj
end
def RA:List cB->List cB
 | .nat _::hs=>RA hs
 |hs=>hs
def IV(C:eb)(d:Option Tmp)(H:Nat->Option E)(a:List V)(e:List cB):jT:=
 match a with
 | .fn f c::args=>match RA (e.drop 1) with
  | .v r::e=>match p6 H (args++c),s8 r with
   |some (h,i),ab=>aa (⟨fK d r,[],[]⟩,i++[.p (lP C.P C.G f h r)],e)
   |_,_=>aj
  |_=>aj
 |_=>aj
def Il(C:eb)(d:Option Tmp)(c:List V)(e:List cB):jT:=
 match c with
 | .fn f a::args=>match e with
  | .v r::e=>match hh hg (ib (args++a)) with
   |true=>aa (⟨fK d r,[],[]⟩,[.p (lP C.P C.G f (ib (args++a)) r)],e)
   |false=>aj
  | .nat _:: .v r::e=>aa (⟨fK d r,[],[]⟩,[.p (hh hg (ib (args++a))=ab),.p (lP C.P C.G f (ib (args++a)) r)],e)
  |_=>aj
 |_=>aj
def IZ(C:eb)(d:Option Tmp)(h:List V)(H:Nat->Option E)(u:Nat->Bool)(l:List cB):jT:=
 match h with
 | .fn f i::args=>match l with
  | .dR L a r out::l=>match uC L (ib (args++i)),vk L H L,CL (L++a)&&Cd u a&&b5 out.length (L++a).length with
   |some c,aa hL,ab=>aa (⟨fK d (r.eB (L++a)),(L++a).zip (out.map λe=>aa (e.eB (L++a))),(L++a).map λk=>(k,ab)⟩,[.p (jU C.P C.G f hL c r out)],l)
   |_,_,_=>aj
  |_=>aj
 |_=>aj
def H5(C:eb)(t:TypeId)(H:Nat->Option E)(v:V)(n:List cB):jT:=
 match dL C.cq t with
 |none=>aj
 |some i=>match i.u with
  | .slice e=>match dL C.cq e with
   |none=>aj
   |some j=>match v,n,mw (hV j.z).cs with
    | .bf k gen size l m,.rows R::n,aa o=>match H k,(hV j.z).val with
     |some (.arr r h a c),ab=>aa (⟨[],[(k,aa (.arr r h a R))],[]⟩,[.q h gen,.q a size,.q o.length size,.p (l+m<=c.length/\R=c.take l++dA m (o.map jK)++c.drop (l+m))],n)
     |_,_=>aj
    |_,_,_=>aj
  |_=>aj
def Ii(C:eb)(d:Option Tmp)(t:TypeId)(H:Nat->Option E)(v w:V)(r:List cB):jT:=
 match dL C.cq t with
 |none=>aj
 |some i=>match i.u with
  | .slice e=>match dL C.cq e with
   |none=>aj
   |some j=>match v,oA w,r with
    | .bf k gen size n o,.t (.bD a),.rows R:: .nat m::r=>match H k,dt 0 j.size with
     |some (.arr x l c h),ab=>aa (⟨fK d (.t (.int .i64 m)),[(k,aa (.arr x l c R))],[]⟩,
       [.q l gen,.q c size,.q size j.size,.q m (Nat.min a.length o),.p (Rows j.size a),.p (n+o<=h.length/\R=h.take n++a.take m++h.drop (n+m))],r)
     |_,_=>aj
    |_,_,_=>aj
  |_=>aj
def UB:List cB->Bool
 | .dR _ _ _ _::_=>ab
 |_=>ak
def Jg(C:eb)(o:Oper)(e:List V)(H:Nat->Option E)(u:Nat->Bool)(h:List cB):jT:=
 match kO C.nt o.dst with
 |false=>aj
 |true=>match o.op with
  | .box _ _=>match e with
   | [v]=>match S4 h with
    |true=>Im o.dst v h
    |false=>vq o.dst u v h
   |_=>aj
  | .alloc t=>match dL C.cq t with
   |some i=>vq o.dst u (hV i.z) h
   |none=>aj
  | .store t _ _=>match o.dst,e with
   |none,[a,v]=>match HZ C t H a v h with
    |some r=>aa r
    |none=>Hq C t H a v h
   |_,_=>aj
  | .makeSlice t _ _=>match e with
   | [v,w]=>Ix C o.dst t u v w h
   |_=>aj
  | .buildSlice t n l=>match ID C o.dst t n (l.toList.map (·.1)) u e h with
   |some r=>aa r
   |none=>Iy C o.dst t n (l.toList.map (·.1)) u e h
  | .call c=>match c.callee with
   | .value _=>match UB h with
    |true=>IZ C o.dst e H u h
    |false=>match S4 h with
     |true=>IV C o.dst H e h
     |false=>Il C o.dst e h
   | .builtin .append=>match c.args.toList,c.argTypes.toList,e with
    | [_,_],[t,m],[v,w]=>match Hs C o.dst t m H v w h with
     |some r=>aa r
     |none=>Gv C o.dst t m H v w h
    |_,_,_=>aj
   | .builtin .clear=>match o.dst,c.args.toList,c.argTypes.toList,e with
    |none,[_],[t],[v]=>H5 C t H v h
    |_,_,_,_=>aj
   | .builtin .copy=>match c.args.toList,c.argTypes.toList,e with
    | [_,_],[t,_],[v,w]=>Ii C o.dst t H v w h
    |_,_,_=>aj
   | .builtin _=>match yG C.P C.cq H o.op e h with
    |some (v,k,h)=>aa (⟨fK o.dst v,[],[]⟩,k,h)
    |none=>aj
   |_=>aj
  |_=>match yG C.P C.cq H o.op e h with
   |some (v,k,h)=>aa (⟨fK o.dst v,[],[]⟩,k,h)
   |none=>aj
theorem acN{z:Value}{a:List T}(k:(hV z).val=ab)(l:mw (hV z).cs=aa a):z.cells.size=a.length/\ ∀(w:World) (X:Nat->Prop) (j:Nat) (u:Value) (x:T),z.cells[j]? =aa u->(a.map jK)[j]? =aa x->df w X x u:=by
 have h:=fun(w:World) (X:Nat->Prop)=>(zR (⟨λ_=>aj,λ_ _=>False⟩:Map) w X z).cells k;have i:=po l;refine⟨by rw[(h default λ_=>False).1,i,dJ],λw X j u x m c=>?_⟩;rw[eK] at c;cases e:a[j]? with
 |none=>rw[e] at c;cases c
 |some y=>
  rw[e] at c;simp only[ht,Option.some.injEq] at c;subst c
  have:=(h w X).2 j (.t y) u (by rw[i,eK,e];rfl) m;cases this with
  |t _ _ n=>exact n.zr
section steps
variable {K:Ctx}{s:S}{d:Option Tmp}{ty:TypeId}{pos:String}{af:Array Edge}{g:Option (Nat×Bool)}
variable {t:TypeId}{u:TypeDesc}{z:Value}{size bytes gen:Nat}
theorem WH(a:Array Value)(n i j:Nat)(h:i<n)(e:j<a.size):(eR a n).toList[i*a.size+j]? =a[j]? :=by
 have c:i*a.size+j<n*a.size:=by
  have:(i+1)*a.size<=n*a.size:=eh _ h
  grind
 have k:(i*a.size+j)%a.size=j:=by rw[Nat.mul_comm,Nat.mul_add_mod];exact Nat.mod_eq_of_lt e
 simp[eR,c,k,e]
theorem aes(x:Operand)(D c h:Nat)(e e':TypeId)(rows:List (List T))(A:List T)(hx:s.get x= .bf D gen size c h)(hH:s.H D=aa (.arr e' gen size rows))(gJ:K.P.underlying t=aa (.slice e)){sz:Nat}(he:cr K.P e u z sz bytes)
  (bW:(hV z).val=ab) (fr:mw (hV z).cs=aa A) (L:A.length=size) (cI:c+h<=rows.length):
  ej K ⟨aj,.call {callee:= .builtin .clear,args:= #[x],argTypes:= #[t]},ty,pos,af,g⟩ s {s with H:=a8 s.H D (aa (.arr e' gen size (rows.take c++dA h (A.map jK)++rows.drop (c+h))))}:=by
 intro β a w next Q b7 E
 have R:=b7.get x;rw[hx] at R;have I:=(b7.heap D _ hH).2;obtain⟨q,M⟩:=l7 I;obtain⟨rP,N⟩:=acN bW fr;unfold Oper.wp;cases h with
 |zero=>
  obtain⟨o3,cap,o⟩: ∃o3 cap,a.eval x= .slice o3 0 cap:=by
   rcases d4 R M with ⟨cap,b,n,lF,o,_⟩|⟨_,_,_,o⟩
   ·exact⟨_,cap,o⟩
   exact⟨aj,0,o⟩
  have y:(execOp a.eval ⟨aj,.call {callee:= .builtin .clear,args:= #[x],argTypes:= #[t]},ty,pos,af,g⟩).run K.P w= .ok (.value (.tuple #[])) w:=by
   cases o3<;>simp[execOp,resolve,invoke,builtin,o,Builtin.clear_,run_underlying gJ]
  rw[y]
  have:rows.take c++dA 0 (A.map jK)++rows.drop (c+0)=rows:=aX
  refine E β _ _ ?_;rw[this];exact b7.zN D _ hH
 |succ h=>
  rcases d4 R M with ⟨cap,b,n,lF,o,lz,hw,hs,cY,qn,hm⟩|⟨_,_,h0,_⟩
  ·subst lz;rcases I.2 with ⟨U,_⟩|⟨cS,C,U,h2,h3,h4,h5⟩
   ·rw[M] at U;cases U
   rw[M] at U;cases U;have F:z.cells.size=size:=by rw[rP,L]
   have p:(eR z.cells (h+1)).toList.length=(h+1)*size:=by rw[rb,size_zeroCells,F]
   have qj:c*size+(h+1)*size<=C.size:=by
    have:(c+(h+1))*size<=rows.length*size:=eh _ cI;rw[eu] at this;omega
   have r: ∀(i j:Nat) (u:Value),i<h+1->j<size->(eR z.cells (h+1)).toList[i*size+j]? =aa u->z.cells[j]? =aa u:=by
    intro i j u hi G hu;rw[<-F] at G hu
    rwa [WH _ _ _ _ hi G] at hu
   have V: ∀v∈(eR z.cells (h+1)).toList,v.oneCell'=ab:=by
    intro v ah7;obtain⟨k,E⟩:=jO.1 ah7;have W:=(bR.1 E).1;rw[p] at W;have hp:0<size:=by
     rcases Nat.eq_zero_or_pos size with e0|e0
     ·rw[e0] at W;omega
     exact e0
    have hdiv:k / size<h+1:=(w3 hp).2 W;have SA:k%size<size:=Nat.mod_lt _ hp;have qm:(eR z.cells (h+1)).toList[k / size*size+k%size]? =aa v:=by rw[Nat.div_add_mod'];exact E
    have h9:=r _ _ _ hdiv SA qm
    have:(A.map jK)[k%size]? =aa (jK A[k%size]):=by rw[eK,bp O];rfl
    exact(bq.t (β:=β) _ _ (N w (λ_=>False) _ _ _ h9 this)).j4 rfl
   have qu:=run_storeCells_at K.P b (c*size) e' (eR z.cells (h+1)).toList 0 C w h2 (by rw[p];omega) V;simp only[Nat.add_zero] at qu;have y:(execOp a.eval ⟨aj,.call {callee:= .builtin .clear,args:= #[x],argTypes:= #[t]},ty,pos,af,g⟩).run K.P w= .ok (.value (.tuple #[])) (w.setRow b (C.toList.take (c*size)++(eR z.cells (h+1)).toList++C.toList.drop (c*size+(eR z.cells (h+1)).toList.length)).toArray):=by
    simp[execOp,resolve,invoke,builtin,o,Builtin.clear_,run_underlying gJ,he.ur,qu]
   rw[y];refine E β _ _ (PE b7 D b e' rows _ C _ hH M h2 (by simp[p];omega) ?_ ?_ ?_)
   ·have:(rows.take c++dA (h+1) (A.map jK)++rows.drop (c+(h+1))).length=rows.length:=bP
    rw[this];exact h3
   ·intro m l;rw[eC,eC] at l;rcases l with (l|l)|l
    ·exact h4 m (gO l)
    ·rw[(uF.1 l).2,dJ];exact L
    exact h4 m (fq l)
   intro i j m kC sp aL a2 a3;have a3:(C.toList.take (c*size)++(eR z.cells (h+1)).toList++C.toList.drop (c*size+(eR z.cells (h+1)).toList.length))[i*size+j]? =aa sp:=by simpa using a3
   rw[p] at a3;have B:(C.toList.take (c*size)).length=c*size:=bP
   by_cases c1:i<c
   ·rw[fN,jo bP,gZ,aR c1] at aL;have G:j<size:=by rw[<-h4 m (bx aL)];exact(bR.1 a2).1
    have hlt:i*size+j<c*size:=pq c1 G;rw[fN,jo O,gZ,aR hlt] at a3;exact .inl ⟨i,m,aL,a2,by simpa using a3⟩
   by_cases c2:i<c+(h+1)
   ·rw[jo bP,iD bP] at aL;have l:m=A.map jK:=by
     have:=bx aL;exact(uF.1 this).2
    subst l;have G:j<size:=by rw[<-L,<-dJ (f:=jK)];exact(bR.1 a2).1
    have e1:i*size+j=c*size+((i-c)*size+j):=by rw[Nat.sub_mul];have:=eh size (O:c<=i);omega
    have hlt:(i-c)*size+j<(h+1)*size:=pq O G;rw[e1,jo (by rw[ea,B,p];omega),iD O,B,Nat.add_sub_cancel_left] at a3;exact .inr λw X=>N w X j _ _ (r _ _ _ O G a3) a2
   have Z:(rows.take c++dA (h+1) (A.map jK)).length=c+(h+1):=bP
   rw[iD O,Z,gY,show c+(h+1)+(i-(c+(h+1)))=i by omega] at aL;have G:j<size:=by rw[<-h4 m (bx aL)];exact(bR.1 a2).1
   have kp:c*size+(h+1)*size<=i*size+j:=by
    have:=eh size (O:c+(h+1)<=i);rw[eu] at this;omega
   rw[iD (by rw[ea,B,p];omega),ea,B,p,gY,show c*size+(h+1)*size+(i*size+j-(c*size+(h+1)*size))=i*size+j by omega] at a3;exact .inl ⟨i,m,aL,a2,by simpa using a3⟩
  omega
theorem Zv(k h l c:Nat)(x y:Operand)(e:TypeId)(rows:List (List T))(cC: ∀i,d=aa i->dt i K.nt=ab)(hx:s.get x= .bf k gen size 0 h)(hy:s.get y= .bf k gen size l c)(hH:s.H k=aa (.arr e gen size rows))
  (gJ:K.P.underlying t=aa (.slice e)) (he:cr K.P e u z size bytes) (hp:0<size) (h1:h+c<=rows.length) (h2:l+c<=rows.length):
  ej K ⟨d,.call {callee:= .builtin .append,args:= #[x,y],argTypes:= #[t,t]},ty,pos,af,g⟩ s
   (({s with H:=a8 s.H k (aa (.arr e gen size (rows.take h++(rows.drop l).take c++rows.drop (h+c))))}:S).put d (.bf k gen size 0 (h+c))):=by
 intro β a w next Q b7 hkk
 have D:=b7.get x;rw[hx] at D;have nx:=b7.get y;rw[hy] at nx;have j1:=(b7.heap k _ hH).2;have ko:=j1.1;obtain⟨q,I⟩:=l7 j1;obtain⟨_,i,pb,hi2,ql,vP⟩:=id he;unfold Oper.wp;cases c with
 |zero=>
  obtain⟨o3,cap,M⟩: ∃o3 cap,a.eval y= .slice o3 0 cap:=by
   rcases d4 nx I with ⟨cap,b,n,lF,p,_⟩|⟨_,_,_,p⟩
   ·exact⟨_,cap,p⟩
   exact⟨aj,0,p⟩
  have ahT:rows.take h++(rows.drop l).take 0++rows.drop (h+0)=rows:=aX
  have L:(execOp a.eval ⟨d,.call {callee:= .builtin .append,args:= #[x,y],argTypes:= #[t,t]},ty,pos,af,g⟩).run K.P w= .ok (.value (a.eval x)) w:=by
   rcases d4 D I with ⟨RV,b,n,lF,p,_,_,_,_,cI,_⟩|⟨_,_,_,p⟩
   ·cases o3<;>simp[execOp,resolve,invoke,builtin,p,M,Builtin.append_,run_underlying gJ,sizeOf,typeInfo,pb,Builtin.lenOf,Builtin.firstCells,cI,storeCells,loadCells,loadCellsFrom]
   cases o3<;>simp[execOp,resolve,invoke,builtin,p,M,Builtin.append_,run_underlying gJ,sizeOf,typeInfo,pb,Builtin.lenOf,Builtin.firstCells,loadCells,loadCellsFrom]
  rw[L];refine hkk β _ w ?_;have j0:a8 s.H k (aa (E.arr e gen size rows))=s.H:=by
   funext j;by_cases F:j=k
   ·subst F;rw[cd,hH]
   rw[cb _ _ _ _ F]
  rw[ahT,j0];exact b7.put d cC D
 |succ c=>
  rcases d4 nx I with ⟨af8,b,n,lF,M,lz,hw,hs,cY,qn,hm⟩|⟨_,_,h0,_⟩
  ·subst lz;rcases d4 D I with ⟨A,je,Kk,ajZ,p,nv,yY,N,tF,akE,DA⟩|⟨h0,_⟩
   ·cases nv;rcases j1.2 with ⟨g1,_⟩|⟨cS,B,g1,g2,g3,g4,g5⟩
    ·rw[I] at g1;cases g1
    rw[I] at g1;cases g1;have SQ:B.size=Kk:=by
     unfold hv at N;rw[g2] at N;simp at N;exact N.2
    obtain⟨C,SS⟩: ∃C,C=(B.toList.drop (l*size)).take ((c+1)*size):=⟨_,rfl⟩
    have hle:(l+(c+1))*size<=B.size:=iE (eh _ h2) g3;rw[eu] at hle;have G:C.length=(c+1)*size:=by rw[SS];simp;omega
    have R: ∀j v,C[j]? =aa v->B[l*size+j]? =aa v/\j<(c+1)*size:=λj v bW=>by
     have F:=(bR.1 bW).1;rw[G] at F;rw[SS,gZ,aR F,gY] at bW;exact⟨by simpa using bW,F⟩
    have U: ∀r,r<rows.length-> ∃m,rows[r]? =aa m/\m.length=size:=λr yQ=>⟨_,bp yQ,g4 _ (gB yQ)⟩
    have JA: ∀j v,C[j]? =aa v->w.cell? ((⟨b,l*size,aj⟩:Addr).add j)=aa v:=λj v bW=>by
     rw[kR];simp only[World.cell?,g2];exact(R j v bW).1
    have qt: ∀v,v∈C->v.oneCell'=ab:=λv bW=>by
     obtain⟨j,F⟩:=jO.1 bW;obtain⟨h3,h4⟩:=R j v F;have SA:j%size<size:=Nat.mod_lt _ hp;have hdiv:j / size<c+1:=(w3 hp).2 h4;obtain⟨m,rO,yT⟩:=U (l+j / size) O;have ag5:(l+j / size)*size+j%size=l*size+j:=by rw[eu,q8,Nat.div_add_mod']
     exact(g5 (l+j / size) (j%size) m m[j%size] v rO (bp O) (by rw[ag5];exact h3)).j4
    have qj:h*size+C.length<=B.size:=by
     rw[G,<-eu];exact iE (eh _ h1) g3
    have W:h+(c+1)<=A:=by
     have:(h+(c+1))*size<=A*size:=by
      rw[dQ] at tF;rw[tF,<-SQ];exact iE (eh _ h1) g3
     exact Nat.le_of_mul_le_mul_right this hp
    have X:=run_append_room (P:=K.P) w t ty e i gJ pb b h A B g2 ⟨b,l*size,aj⟩ (c+1) af8 C (by rw[ql];exact G) JA qt W (by rw[ql];exact qj);rw[ql] at X;have L:(execOp a.eval ⟨d,.call {callee:= .builtin .append,args:= #[x,y],argTypes:= #[t,t]},ty,pos,af,g⟩).run K.P w= .ok (.value (.slice (aa ⟨b,0,aj⟩) (h+(c+1)) A)) (w.setRow b (B.toList.take (h*size)++C++B.toList.drop (h*size+C.length)).toArray):=by
     rw[ih] at p;simp[execOp,resolve,invoke,builtin,p,M,X]
    rw[L];have V:(B.toList.take (h*size)).length=h*size:=bP
    have SO:(B.toList.take (h*size)++C++B.toList.drop (h*size+C.length)).toArray.size=B.size:=bP
    have Z:(rows.take h).length=h:=by rw[cZ];omega
    have f:((rows.drop l).take (c+1)).length=c+1:=by rw[cZ,fM];omega
    have hrel:=PE b7 k b e rows (rows.take h++(rows.drop l).take (c+1)++rows.drop (h+(c+1))) B _ hH I g2 SO ?_ ?_ ?_
    ·refine hkk β _ _ (hrel.put d cC ?_);have lW:bq β (w.setRow b (B.toList.take (h*size)++C++B.toList.drop (h*size+C.length)).toArray) (own K β (a8 s.H k (aa (.arr e gen size (rows.take h++(rows.drop l).take (c+1)++rows.drop (h+(c+1))))))) (.bf k gen size 0 (h+(c+1))) (.slice (aa ⟨b,0*size,aj⟩) (h+(c+1)) A):=by
      refine .bf k gen size 0 _ A b Kk e ko I (by simpa using yY) ?_ tF W DA;unfold hv;rw[setRow_heap _ _ _ _ _ _ g2];simp only[SO,SQ]
     rw[ih] at lW;exact lW
    ·rw[ea,ea,Z,f,fM]
     have:h+(c+1)+(rows.length-(h+(c+1)))=rows.length:=O
     rw[this];exact g3
    ·intro m o;rw[eC,eC] at o;rcases o with (o|o)|o
     ·exact g4 m (gO o)
     ·exact g4 m (fq (gO o))
     exact g4 m (fq o)
    intro r j m kC sp aL a2 a3;have a3:(B.toList.take (h*size)++C++B.toList.drop (h*size+C.length))[r*size+j]? =aa sp:=by simpa using a3
    refine .inl ?_;by_cases c1:r<h
    ·rw[fN,jo O,gZ,aR c1] at aL;have F:j<size:=by rw[<-g4 m (bx aL)];exact(bR.1 a2).1
     have hlt:r*size+j<h*size:=pq c1 F;rw[fN,jo O,gZ,aR hlt] at a3;exact⟨r,m,aL,a2,by simpa using a3⟩
    by_cases c2:r<h+(c+1)
    ·rw[jo (by rw[ea];omega),iD O,Z,gZ,aR O,gY] at aL;have F:j<size:=by rw[<-g4 m (bx aL)];exact(bR.1 a2).1
     have e1:r*size+j=h*size+((r-h)*size+j):=by rw[Nat.sub_mul];have:=eh size (O:h<=r);omega
     have hlt:(r-h)*size+j<(c+1)*size:=pq O F;rw[e1,jo (by rw[ea,V,G];omega),iD O,V,Nat.add_sub_cancel_left] at a3;have h9:=(R _ _ a3).1;exact⟨l+(r-h),m,aL,a2,by rw[eu,q8];exact h9⟩
    have ahu:(rows.take h++(rows.drop l).take (c+1)).length=h+(c+1):=by rw[ea,Z,f]
    rw[iD O,ahu,gY,show h+(c+1)+(r-(h+(c+1)))=r by omega] at aL;have F:j<size:=by rw[<-g4 m (bx aL)];exact(bR.1 a2).1
    have kp:h*size+(c+1)*size<=r*size+j:=by
     have:=eh size (O:h+(c+1)<=r);rw[eu] at this;omega
    rw[iD (by rw[ea,V,G];omega),ea,V,G,gY,show h*size+(c+1)*size+(r*size+j-(h*size+(c+1)*size))=r*size+j by omega] at a3;exact⟨r,m,aL,a2,by simpa using a3⟩
   rw[I] at *; cases h0
  omega
theorem XO(k W:Nat)(x y:Operand)(e f:TypeId)(p:List (List T))(j: ∀i,d=aa i->dt i K.nt=ab)(v:s.get x= .bf k gen size 0 W)(D:dN (s.get y) (.t (.bD [])))(E:s.H k=aa (.arr f gen size p))
  (X:K.P.underlying t=aa (.slice e)) (I:cr K.P e u z size bytes) (M:0<size):
  ej K ⟨d,.call {callee:= .builtin .append,args:= #[x,y],argTypes:= #[t,t]},ty,pos,af,g⟩ s (s.put d (.bf k gen size 0 W)):=by
 intro N a w next Q F G
 have h:=F.get x;rw[v] at h;have L:=D _ _ _ _ (F.get y);have R:=(F.heap k _ E).2;obtain⟨q,U⟩:=l7 R;obtain⟨_,i,r,V,ql,vP⟩:=id I;unfold Oper.wp;obtain⟨m,cap,A⟩: ∃m cap,a.eval y= .slice m 0 cap:=by
  rcases Bw L (Rows.nil size) M with (⟨B,_⟩|⟨b,o,c,_,B,_⟩)|⟨_,m,cap,B⟩
  ·exact⟨aj,0,B⟩
  ·exact⟨_,c,B⟩
  exact⟨m,cap,B⟩
 have C:(execOp a.eval ⟨d,.call {callee:= .builtin .append,args:= #[x,y],argTypes:= #[t,t]},ty,pos,af,g⟩).run K.P w= .ok (.value (a.eval x)) w:=by
  rcases d4 h U with ⟨Z,b,n,lF,l,_,_,_,_,cI,_⟩|⟨_,_,_,l⟩
  ·cases m<;>simp[execOp,resolve,invoke,builtin,l,A,Builtin.append_,run_underlying X,sizeOf,typeInfo,r,Builtin.lenOf,Builtin.firstCells,cI,storeCells,loadCells,loadCellsFrom]
  cases m<;>simp[execOp,resolve,invoke,builtin,l,A,Builtin.append_,run_underlying X,sizeOf,typeInfo,r,Builtin.lenOf,Builtin.firstCells,loadCells,loadCellsFrom]
 rw[C];exact G N _ w (F.put d j h)
theorem Z5{size off:Nat}{a c:List (List T)}{us cs:List Value}(w:off+m<=a.length)(B:a.length*size<=us.length)(p:cs.length=m*size)(C:m<=c.length)(q: ∀e,e∈a->e.length=size)(l: ∀e,e∈c->e.length=size){R:T->Value->Prop}
  (r: ∀(i j:Nat) (e:List T) (x:T) (u:Value),a[i]? =aa e->e[j]? =aa x->us[i*size+j]? =aa u->R x u)
  (y: ∀(i j:Nat) (e:List T) (x:T) (u:Value),c[i]? =aa e->e[j]? =aa x->cs[i*size+j]? =aa u->R x u):
  ∀(i j:Nat) (e:List T) (x:T) (u:Value),(a.take off++c.take m++a.drop (off+m))[i]? =aa e->e[j]? =aa x->(us.take (off*size)++cs++us.drop (off*size+cs.length))[i*size+j]? =aa u->R x u:=by
 have F:off*size+m*size<=a.length*size:=by rw[<-eu];exact eh _ w
 have A:=B2 (us.take (off*size)) cs [] (rows:=a.take off) (news:=c.take m) (n:=off) (size:=size) (by rw[cZ];omega) (by rw[cZ];omega) (by rw[cZ,p];congr 1;omega)
  (λe h=>q e (gO h)) (λe h=>l e (gO h)) (R:=R)
  (λk j e x u aL a2 a3=>by
   rw[gZ] at aL a3;split at aL
   ·split at a3
    ·exact r k j e x u aL a2 a3
    cases a3
   cases aL)
  (λk j e x u aL a2 a3=>by
   rw[gZ] at aL;split at aL
   ·exact y k j e x u aL a2 a3
   cases aL)
 have o:(us.drop (off*size+cs.length)).length=us.length-(off+m)*size:=by rw[fM,p,eu]
 have gk:=B2 (us.take (off*size)++cs) ((us.drop (off*size+cs.length)).take ((a.length-(off+m))*size)) ((us.drop (off*size+cs.length)).drop ((a.length-(off+m))*size)) (rows:=a.take off++c.take m) (news:=a.drop (off+m)) (n:=off+m) (size:=size)
  (by rw[ea,cZ,cZ];omega) (by rw[ea,cZ,p,eu];omega)
  (by
   rw[cZ,o,fM]
   have:(a.length-(off+m))*size=a.length*size-(off+m)*size:=Nat.sub_mul _ _ _;omega)
  (λe h=>by
   rcases eC.1 h with h|h
   ·exact q e (gO h)
   exact l e (gO h)) (λe h=>q e (fq h)) (R:=R) (λk j e x u aL a2 a3=>A k j e x u aL a2 (by simpa using a3))
  (λk j e x u aL a2 a3=>by
   rw[gY] at aL;rw[gZ] at a3;split at a3
   ·rw[gY,p] at a3;refine r (off+m+k) j e x u aL a2 ?_;rw[eu,eu,q8];exact a3
   cases a3)
 intro i j e x u aL a2 a3;refine gk i j e x u aL a2 ?_;rw[fN _ (List.take _ _),mX];exact a3
theorem afu(x y:Operand)(D c len:Nat)(e e' mU:TypeId)(rows k:List (List T))(cC: ∀i,d=aa i->dt i K.nt=ab)(hx:s.get x= .bf D gen size c len)(hy:dN (s.get y) (.t (.bD k)))(hH:s.H D=aa (.arr e' gen size rows))(gJ:K.P.underlying t=aa (.slice e))
  (he:cr K.P e u z size bytes) (hp:0<size) (E: ∀r,r∈k->r.length=size) (cI:c+len<=rows.length):
  ej K ⟨d,.call {callee:= .builtin .copy,args:= #[x,y],argTypes:= #[t,mU]},ty,pos,af,g⟩ s
   (({s with H:=a8 s.H D (aa (.arr e' gen size (rows.take c++k.take (Nat.min k.length len)++rows.drop (c+Nat.min k.length len))))}:S).put d (.t (.int .i64 (Nat.min k.length len:Nat)))):=by
 intro β a w next Q b7 hk
 have I:=b7.get x;rw[hx] at I;have nx:=hy _ _ _ _ (b7.get y);have M:=(b7.heap D _ hH).2;obtain⟨q,N⟩:=l7 M;obtain⟨_,i,pb,hi2,ql,vP⟩:=he;unfold Oper.wp;have aib: ∃C c1,a.eval x= .slice C len c1:=by
  rcases d4 I N with ⟨F,b,n,lF,B,_⟩|⟨_,_,h0,B⟩
  ·exact⟨_,F,B⟩
  subst h0;exact⟨aj,0,B⟩
 have X:=Bw nx E hp;have aih: ∃KF c2,a.eval y= .slice KF k.length c2:=by
  rcases X with (⟨A,Z⟩|⟨b,c,F,L,A,_⟩)|⟨Z,o3,F,A⟩
  ·subst Z;exact⟨aj,0,A⟩
  ·exact⟨_,_,A⟩
  subst Z;exact⟨o3,F,A⟩
 obtain⟨m,hm⟩: ∃m,m=Nat.min k.length len:=⟨_,rfl⟩
 rw[<-hm] at hk;by_cases U:m=0
 ·subst U;obtain⟨C,c1,B⟩:=aib;obtain⟨KF,c2,A⟩:=aih;have G:(execOp a.eval ⟨d,.call {callee:= .builtin .copy,args:= #[x,y],argTypes:= #[t,mU]},ty,pos,af,g⟩).run K.P w= .ok (.value (goInt ((0:Nat):Int))) w:=by
   cases C<;>cases KF<;>simp[execOp,resolve,invoke,builtin,B,A,Builtin.copy_,run_underlying gJ,sizeOf,typeInfo,pb,Builtin.lenOf,Builtin.firstCells,<-hm,loadCells,loadCellsFrom,storeCells]
  rw[G]
  have:rows.take c++k.take 0++rows.drop (c+0)=rows:=aX
  rw[this] at hk;exact hk β _ _ ((b7.zN D _ hH).put d cC (.t _ _ (.int _ _)))
 have akH:m<=len:=by rw[hm];exact Nat.min_le_right _ _
 have o:m<=k.length:=by rw[hm];exact Nat.min_le_left _ _
 rcases X with (⟨_,Z⟩|⟨cS,ajr,Dm,f,A,JZ,JX,nw,hwr⟩)|⟨Z,_⟩
 ·subst Z;simp at o;exact bB o U
 ·rcases d4 I N with ⟨F,b,n,lF,B,lz,hw,hs,Z,qn,qp⟩|⟨_,_,h0,_⟩
  ·subst lz;rcases M.2 with ⟨h1,_⟩|⟨V,L,h1,h2,h3,h4,h5⟩
   ·rw[N] at h1;cases h1
   rw[N] at h1;cases h1;have W:(f.take (m*size)).length=m*size:=by rw[cZ,JZ];have:=eh size o;omega
   have qj:c*size+m*size<=L.size:=by
    have:(c+m)*size<=rows.length*size:=eh _ O;rw[eu] at this;omega
   have Sx:=run_loadCells_list (P:=K.P) w ⟨cS,ajr,aj⟩ (f.take (m*size)) (λj y hj=>by
    rw[kR];rw[gZ] at hj;split at hj
    ·exact JX j y hj
    cases hj)
   have qu:=run_storeCells_at K.P b (c*size) e' (f.take (m*size)) 0 L w h2 (by rw[W];omega) λv bW=>nw v (gO bW);simp only[Nat.add_zero] at qu;rw[W] at Sx;have G:(execOp a.eval ⟨d,.call {callee:= .builtin .copy,args:= #[x,y],argTypes:= #[t,mU]},ty,pos,af,g⟩).run K.P w= .ok (.value (goInt (m:Int))) (w.setRow b (L.toList.take (c*size)++f.take (m*size)++L.toList.drop (c*size+(f.take (m*size)).length)).toArray):=by
    simp[execOp,resolve,invoke,builtin,B,A,Builtin.copy_,run_underlying gJ,sizeOf,typeInfo,pb,ql,Builtin.lenOf,Builtin.firstCells,<-hm,Sx,qu]
   rw[G];have lV:(L.toList.take (c*size)++f.take (m*size)++L.toList.drop (c*size+(f.take (m*size)).length)).toArray.size=L.size:=by
    have h2: ∀l:List Value,l.toArray.size=l.length:=λl=>aX
    rw[h2];simp only[List.length_append,W,List.length_take,List.length_drop,Array.length_toList];omega
   have hlen:(rows.take c++k.take m++rows.drop (c+m)).length=rows.length:=bP
   have mI:own K β s.H b:= .inr ⟨D,by rw[hH];simp,.inl ⟨_,N⟩⟩;refine hk β _ _ (Rel.put (Rel.setRow b7 D b (.inl ⟨_,N⟩) L e' h2 _ lV (.arr e' gen size (rows.take c++k.take m++rows.drop (c+m))) (by rw[hH];simp)
    ⟨M.1,Or.inr ⟨b,_,N,setRow_heap _ _ _ _ _ _ h2,by rw[lV,hlen];exact h3,λr p=>?_,λi j r x u aL a2 a3=>?_⟩⟩) d cC (.t _ _ (.int _ _)))
   ·rw[eC,eC] at p;rcases p with (p|p)|p
    ·exact h4 r (gO p)
    ·exact E r (gO p)
    exact h4 r (fq p)
   have h9:=Z5 (off:=c) (m:=m) (us:=L.toList) (cs:=f.take (m*size)) O (by simpa using h3) W o h4 E (R:=λx u=>df w (own K β s.H) x u) (λi j r x u dc cS V=>h5 i j r x u dc cS (by simpa using V))
    (λi j r x u dc cS V=>by
     rw[gZ] at V;split at V
     ·exact hwr i j r x u dc cS V
     cases V) i j r x u aL a2 (by simpa using a3)
   refine h9.mono ⟨rfl,rfl,rfl,aX,λkk _ hx=>setRow_other _ _ _ _ λe0=>hx ?_⟩ λ_ _ h=>h;subst e0;exact mI
  omega
 subst Z;simp at o;exact bB o U
end steps
end
variable {P:Program}{r:List Nat}{o:Oper}{b:S}{c l n M L:List cB}{k gen size:Nat}{e:c8}{e':E}{t:TypeId}{x y:Operand}{u:Nat->Bool}{m ng:List dE}{i:Array Operand}{z:Value}
theorem cc.sub{H r:Nat->Option E}{a:List V}{v:V}(h:cc P H o a v)(c: ∀k e,H k=aa e->r k=aa e):cc P r o a v:=
 λβ w X i l m=>h β w X i (λid e n=>l id e (c id e n)) m
theorem ej.KU{K:Ctx}{s c:S}(h:ej K o s b)(m: ∀β a w,Rel K β b a w->Rel K β c a w):ej K o s c:=
 λβ a w next Q n p=>h β a w next Q n λe k l i=>p e k l (m e k l i)
theorem ac7{K:Ctx}{β:Map}{H:Nat->Option E}{e:E}(l:H k=aa e):own K β (a8 H k (aa e'))=own K β H:=by
 funext b;apply propext;constructor
 ·rintro(h|⟨id,i,a⟩)
  ·exact .inl h
  by_cases c:id=k
  ·subst c;exact .inr ⟨id,by rw[l];simp,a⟩
  rw[cb _ _ _ _ c] at i;exact .inr ⟨id,i,a⟩
 rintro(h|⟨id,i,a⟩)
 ·exact .inl h
 by_cases c:id=k
 ·subst c;exact .inr ⟨id,by rw[cd];simp,a⟩
 exact .inr ⟨id,by rw[cb _ _ _ _ c];exact i,a⟩
theorem Rel.Tl{K:Ctx}{β:Map}{s:S}{a:Act}{w:World}(h:Rel K β s a w)(k:Nat){e:E}(m:s.H k=aa e)(p: ∀X,cX β w X k e->cX β w X k e'):Rel K β {s with H:=a8 s.H k (aa e')} a w:=by
 have fb:=ac7 (K:=K) (β:=β) (e':=e') m;refine {h with heap:= ?_,dC:= ?_}
 ·intro id l n;show _/\cX β w (own K β (a8 s.H k (aa e'))) id l;rw[fb];by_cases o:id=k
  ·subst o;have c:a8 s.H id (aa e') id=aa l:=n;rw[cd] at c;cases c;obtain⟨q,r⟩:=h.heap id e m
   grind
  have c:a8 s.H k (aa e') id=aa l:=n;rw[cb _ _ _ _ o] at c;exact h.heap id l c
 intro i;show bq β w (own K β (a8 s.H k (aa e'))) _ _;rw[fb];exact h.dC i
section
variable {K:Ctx}{s:S}{d:Option Tmp}{ty:TypeId}{pos:String}{af:Array Edge}{g:Option (Nat×Bool)}
theorem PL{f:FuncId}{c:Operand}{k:Array Operand}{l:Array TypeId}(m:List V)(args:List V)(r:V)
  (L:jZ K.P f) (R:s.get c= .fn f m) (W: ∀i,d=aa i->dt i K.nt=ab) (Z:fU (k.toList.map s.get++m) args) (b:hh hg args=ab) (h:F0 K.P K.G f args r):
  ej K ⟨d,.call {callee:= .value c,args:=k,argTypes:=l},ty,pos,af,g⟩ s (s.put d r):=by
 obtain⟨F,j,t,v⟩:=L;intro β a w next Q o D
 have y:F.name≠ "runtime.NumGoroutine" :=by simpa using t
 have z:F.body≠aj:=by intro e;simp[e] at v
 obtain⟨us,A,B⟩:=(R▸o.get c).Jh;have p:(execOp a.eval ⟨d,.call {callee:= .value c,args:=k,argTypes:=l},ty,pos,af,g⟩).run K.P w= .ok (.enter f (k.map a.eval++us)) w:=by
  simp[execOp,resolve,Deferred.ofValue,A,invoke,callFunc,j,y,z]
 unfold Oper.wp;rw[p,Oper.upon_enter];have n:=(dH.le ((o.o8 k.toList).app B) Z).Km b;have q:=h w (own K β s.H) _ o.Dq o.Ko n;have I:(List.map a.eval k.toList++us.toList).toArray=k.map a.eval++us:=by rw[<-w4,<-Array.toList_append]
 rw[I] at q;refine q.mono ?_;rintro e M ⟨u,rfl,x,N⟩;exact D β _ M ((o.grow x).put d W (N.any λ_ h=>h))
theorem sD{s:S}{d:Option Tmp}{v:V}{e:E}:c8.app ⟨fK d v,[(k,aa e)],[(k,ab)]⟩ s=(s.new k e).put d v:=by cases d<;>rfl
theorem pv{s:S}{d:Option Tmp}{v:V}:c8.app ⟨fK d v,[],[]⟩ s=s.put d v:=by cases d<;>rfl
theorem acR{v:V}(a: ∀k,u k=ak->s.u k=ak)(i:kO K.nt d=ab)(n:s.get x=v)
  (h:vq d u v l=aa (e,m,c)):ej K ⟨d,.box t x,ty,pos,af,g⟩ s (e.app s):=by
 unfold vq at h;split at h
 ·split at h
  ·rename_i o p;cases h;rw[sD];exact afL _ (a _ o) x v (hY i) n p
  cases h
 cases h
theorem acO{H:Nat->Option E}(x:Operand)(v:V)(i:List T)(n:v.val=ab)(k:v.cs=i.map .t):CU P H ⟨d,.box t x,ty,pos,af,g⟩ [v] (.aS i):=by
 intro β w X a _ o p;obtain⟨l,q⟩:=(show bq β w X v (a x) from p.1).cells n;have c:(execOp a ⟨d,.box t x,ty,pos,af,g⟩).run P w= .ok (.value (.pointer (aa ⟨w.heap.size,0,aj⟩))) (w.alloc (.cells (a x).cells t)):=by
  simp[execOp,Instr.box,newVar,newRow]
 refine⟨_,_,c,Ext.alloc _ _ _,?_⟩;refine .aS i w.heap.size 0 (λj=>(a x).cells.getD j undef) aX (λh=>by have:=o _ h;omega) (λj e=>?_) λj y m=>?_
 ·rw[dQ,World.cell?_alloc_new]
  have:j<(a x).cells.size:=by rw[l,k];simpa using e
  simp[this]
 have e:j<(a x).cells.size:=by rw[l,k,dJ];exact(bR.1 m).1
 have r:=q j (.t y) (a x).cells[j] (by rw[k,eK,m];rfl) (by simp[e]);cases r with
 |t _ _ h=>
  have:(a x).cells.getD j undef=(a x).cells[j]:=by simp[e]
  rw[this];exact h.mono (Ext.alloc X _ _) λ_ _ h=>h
theorem aax{v:V}(a:kO K.nt d=ab)(i:s.get x=v)
  (h:Im d v l=aa (e,m,c)):ej K ⟨d,.box t x,ty,pos,af,g⟩ s (e.app s):=by
 unfold Im at h;split at h
 ·split at h
  ·rename_i k n o;cases h;rw[pv];exact K' (vals:=[oA v]) (hY a) ⟨i▸u7 _,trivial⟩ (acO x _ k n (po o))
  cases h
 cases h
theorem Zi{a:List (Nat×cu)}(n:ek K.P a){i:cu}(o:dL a t=aa i)(p: ∀k,u k=ak->s.u k=ak)(q:kO K.nt d=ab)
  (h:vq d u (hV i.z) l=aa (e,m,c)):ej K ⟨d,.alloc t,ty,pos,af,g⟩ s (e.app s):=by
 unfold vq at h;split at h
 ·split at h
  ·rename_i r x;cases h;rw[sD];obtain⟨A,y,_⟩:=n _ _ o;exact aet _ (p _ r) (hY q) y x
  cases h
 cases h
theorem ZC{l:List (Nat×cu)}(b:ek K.P l){C:eb}(f:C.cq=l){H:Nat->Option E}{a v:V}(L: ∀k e,H k=aa e->s.H k=aa e)
  (Q:s.get x=a) (R:s.get y=v) (h:HZ C t H a v n=aa (e,m,c)) (p:cy m):ej K ⟨aj,.store t x y,ty,pos,af,g⟩ s (e.app s):=by
 subst f;unfold HZ at h;split at h
 ·cases h
 rename_i i j;obtain⟨T,W,_⟩:=b _ _ j;split at h
 ·split at h
  ·rename_i cs q;split at h
   ·rename_i z A B u;cases h;exact aer _ _ _ _ cs v Q R (L _ _ q) W z A B u
   cases h
  cases h
 ·split at h
  ·rename_i D Z I o M r F n q G;split at h
   ·rename_i z A B;cases h;obtain⟨rfl,rfl,N,rfl,_⟩:=p;exact Zu x y _ _ _ D o r M Q (v:=oA v) (by rw[R];exact u7 v) (po G) z (L _ _ q) W N (de A) (eO B)
   cases h
  cases h
 cases h
theorem B3{k i n:Nat}: ∀{m:List (Nat×Nat×V)},cy (vn k i n m)-> ∀e c l,(e,c,l)∈m->i<=c->c<i+n->e=k
 |h::m,a,e,c,l,hm,o,p=>by
  simp only[vn] at a;rcases ez.1 hm with rfl|hm
  ·have r:db i c=ab:=Nat.ble_eq_true_of_le o;have x:dt c (i+n)=ab:=by simpa[Nat.blt_eq] using p
   simp only[r,x,Bool.and_self,cond_true] at a;exact a.1
  cases q:(db i h.2.1&&dt h.2.1 (i+n)) with
  |true=>rw[q] at a;exact B3 a.2 e c l hm o p
  |false=>rw[q] at a;exact B3 a e c l hm o p
theorem B4{k off n:Nat}: ∀{l:List (Nat×Nat×V)},cy (vo k off n l)-> ∀e c i,(e,c,i)∈l->off<=c->c<off+n->e≠k
 | [],_,_,_,_,hm,_,_=>by cases hm
 |h::l,a,e,c,i,hm,m,o=>by
  unfold vo at a;rcases ez.1 hm with rfl|hm
  ·have q:db off c=ab:=Nat.ble_eq_true_of_le m;have r:dt c (off+n)=ab:=by simpa[Nat.blt_eq] using o
   simp only[q,r,Bool.and_self,cond_true] at a;exact a.1
  cases p:(db off h.2.1&&dt h.2.1 (off+n)) with
  |true=>rw[p] at a;exact B4 a.2 e c i hm m o
  |false=>rw[p] at a;exact B4 a e c i hm m o
theorem Yz{C:eb}(ly:ek K.P C.cq){H:Nat->Option E}{a v:V}{I:List cB}(hH: ∀k e,H k=aa e->s.H k=aa e)
  (B:s.get x=a) (hy:s.get y=v) (h:Hq C t H a v I=aa (e,ng,M)) (F:cy ng):ej K ⟨aj,.store t x y,ty,pos,af,g⟩ s (e.app s):=by
 unfold Hq at h;split at h
 ·rename_i i id gen sz k G r I N;obtain⟨alD,T,_⟩:=ly _ _ N;split at h
  ·rename_i U m L p fb yP;split at h
   ·rename_i l o jh;cases h;simp only[b9] at o;obtain⟨rfl,fr,b7,dI⟩:=F;obtain⟨oE,Q⟩:=cy.app dI;obtain⟨dc,cS⟩:=xp jh oE;refine WZ x y _ _ _ U m p r v fb B hy o.1 o.2.1 (hH _ _ yP) fr T (de o.2.2.1) (by simpa[Nat.blt_eq] using o.2.2.2.2) b7 (eO o.2.2.2.1) (B3 Q) λj hj=>?_;have hj':=bp (show j<(l.map (·.2)).length by simp[dc];exact hj)
    grind
   cases h
  cases h
 ·rename_i i id gen sz k G q n r I N;obtain⟨alD,T,_⟩:=ly _ _ N;split at h
  ·rename_i U m L p fb yP;split at h
   ·rename_i l o jh;cases h;simp only[b9] at o;obtain⟨rfl,fr,b7,dI⟩:=F;obtain⟨oE,Q⟩:=cy.app dI;obtain⟨Q,uh⟩:=cy.app Q;obtain⟨uh,Tk⟩:=cy.app uh;obtain⟨dc,cS⟩:=xp jh oE;have R:=de o.2.2.1;have W: ∀x,x∈(fb.drop q.toNat).take n->x∈fb:=λx B=>fq (gO B);have A: ∀x,x∈fb->x∈fb.take q.toNat\/x∈(fb.drop q.toNat).take n\/x∈(fb.drop q.toNat).drop n:=λx B=>by
     rw[<-mX q.toNat fb,eC] at B;rcases B with h|h
     ·exact .inl h
     rw[<-mX n (fb.drop q.toNat),eC] at h
     grind
    refine LH x y _ _ _ U m p r v fb B hy o.1 o.2.1 (hH _ _ yP) fr T R (by simpa[Nat.blt_eq] using o.2.2.2.2) b7 (eO o.2.2.2.1) (λf u D hm=>?_) (λf u Z hm=>?_) λj hj=>?_
    ·rcases eC.1 hm with c|c
     ·exact⟨D,gO c,λz=>bB z.1 (B4 uh f u D c z.2.1 z.2.2),λ_=>rfl⟩
     rcases eC.1 c with c|c
     ·obtain⟨Z,aL,a2,a3⟩:=GB c;refine⟨Z,W _ aL,λz=>?_,λz=>a3 λb=>z ⟨B3 Q f u Z aL b.1 O,b.1,O⟩⟩
      grind
     exact⟨D,fq (fq c),λz=>bB z.1 (B4 Tk f u D c z.2.1 z.2.2),λ_=>rfl⟩
    ·rcases A _ hm with c|c|c
     ·exact⟨Z,eC.2 (.inl c)⟩
     ·obtain⟨v1,h2⟩:=Hm (off:=G) (vs:=v.cs) c
      grind
     exact⟨Z,eC.2 (.inr (eC.2 (.inr c)))⟩
    have hj':=bp (show j<(l.map (·.2)).length by simp[dc];exact hj)
    grind
   cases h
  cases h
 cases h
theorem ej.aj5{K:Ctx}{s c:S}(h:ej K o s b)(p:b.le K c):ej K o s c:=
 λβ a w next Q q r=>h β a w next Q q λi m n k=>let ⟨e,l⟩:=p i m n k;r e m n l
theorem N2{z:List T}: ∀{l:List (Nat×Nat)} {j m:Nat},yf z l=ab->vj l j=aa m->z[j]? =aa .fT
 |p::l,j,m,h,a=>by
  simp only[yf,b9] at h;simp only[vj] at a;cases c:b5 p.1 j with
  |true=>
   rw[<-de c];have e:=h.1;split at e
   ·assumption
   cases e
  |false=>rw[c] at a;exact N2 h.2 a
theorem ZX{K:Ctx}{s:S}(k:Nat){L n:Nat}{z:List T}(e:List dB)(m:Nat)(B:s.H k=aa (.arr t gen L (dA n z)))(r:(aU e m).ty=t)(F:(aU e m).size=L)
  (D:yf z (aU e m).bj=ab):s.le K {s with H:=a8 s.H k (aa (.a7 e m gen (dA n (z.map jK)) []))}:=by
 intro β a w h;refine⟨_,h.drop k (.a7 e m gen (dA n (z.map jK)) []) (by rw[B];simp) ?_⟩;have l:=(h.heap k _ B).2;subst r;subst F;refine⟨l.1,?_⟩;have o: ∀b,own K (β.drop k) (a8 s.H k (aa (.a7 e m gen (dA n (z.map jK)) []))) b->own K β s.H b:=by
  rintro b (I|⟨id,r,F⟩)
  ·exact .inl I
  refine .inr ⟨id,λG=>?_,oC F⟩;by_cases Z:id=k
  ·subst Z;rw[B] at G;cases G
  rw[cb _ _ _ _ Z] at r;exact r G
 rcases l.2 with ⟨aL,a2⟩|⟨b,M,aL,a2,a3,a4,a5⟩
 ·have:n=0:=by simpa using a2
  subst this;exact .inl ⟨aL,rfl,λc p=>p.1 rfl⟩
 refine .inr ⟨b,M,λ_ _ _=>False,aL,a2,by simpa using a3,λQ N=>?_,λi j Q x u A f P=>Cell.of ?_,λ_ _ _ h=>h.elim,λ_ _ _ _ _ h=>h.elim,λc=>⟨λp=>bB rfl p.1,λ⟨_,_,p⟩=>p.elim⟩⟩
 ·obtain⟨U,rfl⟩:=uF.1 N
  grind
 rw[uE] at A;split at A
 ·rename_i R;cases A;rw[eK] at f;obtain⟨y,v,rfl⟩:=Option.map_eq_some_iff.1 f;have q:=(a5 i j z y u (by rw[uE,aR R]) v P).mono (Ext.refl _ _) λb _=>o b;cases W:(aU e m).eU j with
  |none=>exact .kP _ _ _ q.zr (λ_ h=>h)
  |some V=>
   have:=N2 D W;rw[v] at this;cases this;cases q;exact .nil _ _ λ_ h=>h
 cases A
theorem aar{C:eb}(ly:ek K.P C.cq){v w:V}{I:List cB}(Q: ∀k,u k=ak->s.u k=ak)(cC:kO K.nt d=ab)
  (hx:s.get x=v) (hy:s.get y=w) (h:Ix C d t u v w I=aa (e,ng,M)) (W:cy ng):ej K ⟨d,.makeSlice t x y,ty,pos,af,g⟩ s (e.app s):=by
 unfold Ix at h;split at h
 ·cases h
 rename_i i l;split at h
 ·rename_i o N;have gJ:K.P.underlying t=aa (.slice o):=(ly _ _ l).jn.2.2.2 o N;split at h
  ·cases h
  rename_i j Z;obtain⟨r0,he,_⟩:=ly _ _ Z;split at h
  ·rename_i n m k R I p r;split at h
   ·rename_i T f U z;cases h;obtain⟨hnm,A,B,_⟩:=W;obtain⟨rN,ahB,rfl⟩:=pr A;have F:m=n:=O
    subst F;simp only[b9] at z;have c:=eO z.2;have D:m.toNat*j.bytes<=1000000000*200000:=oL O c;have bT:=mC B;have Z:=QU (K:=K) (s:=s) (d:=d) (ty:=ty) (pos:=pos) (af:=af) (g:=g) k (Q _ T) x y o m.toNat p (hY cC) gJ he (by rw[hx,<-bT]) (by rw[hy,<-bT]) (po r) f U z.1 O O;refine Z.KU λβ a w b7=>?_;have hk:((s.new k (.arr o 1 j.size (dA m.toNat p))).put d (.bf k 1 j.size 0 m.toNat)).H k=aa (.arr o 1 j.size (dA m.toNat p)):=by
     cases d<;>exact cd _ _ _
    have yT:=b7.Tl k hk λX=>acM;rw[sD,zW]
    have: ∀G L:E,({((s.new k G).put d (.bf k 1 j.size 0 m.toNat)) with H:=a8 ((s.new k G).put d (.bf k 1 j.size 0 m.toNat)).H k (aa L)}:S)=(s.new k L).put d (.bf k 1 j.size 0 m.toNat):=by
     intro G L;have Q: ∀a b:Option E,a8 (a8 s.H k a) k b=a8 s.H k b:=by
      intro a b;funext i;by_cases l:i=k
      ·subst l;rw[cd,cd]
      rw[cb _ _ _ _ l,cb _ _ _ _ l,cb _ _ _ _ l]
     cases d<;>simp only[S.put,S.new,Q]
    grind
   cases h
  ·rename_i n m k lC Γ q R I p r;split at h
   ·rename_i T f U z;cases h;obtain⟨ah3,lV,hnm,A,B,_⟩:=W;obtain⟨rN,ahB,rfl⟩:=pr A;have F:m=n:=O
    subst F;simp only[b9] at f z;have c:=eO z.2;have D:m.toNat*j.bytes<=1000000000*200000:=oL O c;have bT:=mC B;have Z:=QU (K:=K) (s:=s) (d:=d) (ty:=ty) (pos:=pos) (af:=af) (g:=g) k (Q _ T) x y o m.toNat p (hY cC) gJ he (by rw[hx,<-bT]) (by rw[hy,<-bT]) (po r) f.1 U z.1 O O;have hk:((s.new k (.arr o 1 j.size (dA m.toNat p))).put d (.bf k 1 j.size 0 m.toNat)).H k=aa (.arr o 1 j.size (dA m.toNat p)):=by
     cases d<;>exact cd _ _ _
    have cI:=ZX (K:=K) k Γ q hk ah3 lV f.2;rw[sD,zW]
    have: ∀G L:E,({((s.new k G).put d (.bf k 1 j.size 0 m.toNat)) with H:=a8 ((s.new k G).put d (.bf k 1 j.size 0 m.toNat)).H k (aa L)}:S)=(s.new k L).put d (.bf k 1 j.size 0 m.toNat):=by
     intro G L;have Q: ∀a b:Option E,a8 (a8 s.H k a) k b=a8 s.H k b:=by
      intro a b;funext i;by_cases l:i=k
      ·subst l;rw[cd,cd]
      rw[cb _ _ _ _ l,cb _ _ _ _ l,cb _ _ _ _ l]
     cases d<;>simp only[S.put,S.new,Q]
    rw[this] at cI;exact Z.aj5 cI
   cases h
  cases h
 cases h
theorem YB{C:eb}(F:ek K.P C.cq)(_hn0:C.dV=K.dV){G:TypeId}{H:Nat->Option E}{v w:V}{o:List cB}{Q:List dE}(u: ∀k e,H k=aa e->s.H k=aa e)(D:kO K.nt d=ab)
  (I:s.get x=v) (M:s.get y=w) (h:Hs C d t G H v w L=aa (e,Q,o)) (p:cy Q):ej K ⟨d,.call {callee:= .builtin .append,args:= #[x,y],argTypes:= #[t,G]},ty,pos,af,g⟩ s (e.app s):=by
 unfold Hs at h;split at h
 ·cases h
 rename_i i N;split at h
 ·rename_i W q;have T:K.P.underlying t=aa (.slice W):=(F _ _ N).jn.2.2.2 W q;split at h
  ·cases h
  rename_i j Z;obtain⟨r0,U,_⟩:=F _ _ Z;split at h
  ·rename_i k gen b off len a R L hw;split at h
   ·rename_i e' l r c yP;split at h
    ·rename_i h1 n z;cases h;obtain⟨rfl,rfl,rfl,rfl,m,A,B,_⟩:=p;obtain⟨bb,rfl⟩:=uU m;simp only[b9] at n z;have e1:=de z.1;have e2:=de z.2;have ns:=de h1;subst e1;subst e2;subst ns;have f:(c.length+a.length)*j.bytes<=1000000000*140000:=oL bb (eO n.2.2);have Z:=acq (K:=K) (s:=s) (d:=d) (ty:=ty) (pos:=pos) (af:=af) (g:=g) (gen:=l) (size:=j.size) k x y e' c a (hY D) I (by rw[M,<-hw];exact u7 w) (u _ _ yP) T U n.1 n.2.1 A B O O;rw[ea]
     have: ∀v e,c8.app ⟨fK d v,[(k,aa e)],[]⟩ s=({s with H:=a8 s.H k (aa e)}:S).put d v:=by intro v e;cases d<;>rfl
     grind
    cases h
   cases h
  cases h
 cases h
theorem XG{C:eb}(ly:ek K.P C.cq){mU:TypeId}{H:Nat->Option E}{v w:V}{Z b:List cB}(Q: ∀k e,H k=aa e->s.H k=aa e)(f:kO K.nt d=ab)
  (u:s.get x=v) (D:s.get y=w) (h:Gv C d t mU H v w Z=aa (e,ng,b)) (p:cy ng):ej K ⟨d,.call {callee:= .builtin .append,args:= #[x,y],argTypes:= #[t,mU]},ty,pos,af,g⟩ s (e.app s):=by
 unfold Gv at h;split at h
 ·cases h
 rename_i i hi;split at h
 ·rename_i I M;have N:K.P.underlying t=aa (.slice I):=(ly _ _ hi).jn.2.2.2 I M;split at h
  ·cases h
  rename_i j T;obtain⟨r0,U,_⟩:=ly _ _ T;split at h
  ·rename_i k gen z off len ey g3 z3 alQ n3 R Z;split at h
   ·rename_i Γ m c a aj' m3 agC dV l ahW A B;split at h
    ·rename_i n o W;cases h;obtain⟨rfl,rfl,rfl,rfl,vL,oi,rfl,rfl,h3,F,rO,yT,_⟩:=p;obtain⟨bb,rfl⟩:=uU F;simp only[b9] at n o W;have G:=de n.1;have L:=de n.2;have ns:=de W.1;subst G;subst L;subst ns;have hmul:(a.length+(dV::l).length)*j.bytes<=1000000000*140000:=oL bb (eO o.2.2);have T:=aaT (K:=K) (s:=s) (d:=d) (ty:=ty) (pos:=pos) (af:=af) (g:=g) (gen:=c) (size:=j.size) k ey agC (l.length+1) x y I Γ aj' m m3 a (dV::l) ahW (hY f) u D (Q _ _ A) (Q _ _ B) h3 rfl N U o.1 vL oi rO yT (Nat.succ_pos _) W.2.1 W.2.2 O O;rw[ea]
     have: ∀v e,c8.app ⟨fK d v,[(k,aa e)],[]⟩ s=({s with H:=a8 s.H k (aa e)}:S).put d v:=by intro v e;cases d<;>rfl
     grind
    cases h
   ·rename_i e' c q a Jf A B;split at h
    ·rename_i n o;cases h;obtain⟨rfl,rfl,rfl,rfl,r,ahs,tD,rfl,_⟩:=p;simp only[b9] at n o;have G:=de n.1;have L:=de n.2;have tm:=de o.1;have lU:=de o.2.1;have hp:0<j.size:=by simpa[Nat.blt_eq] using o.2.2
     subst G;subst L;subst tm;subst lU;subst r;have T:=Zv (K:=K) (s:=s) (d:=d) (ty:=ty) (pos:=pos) (af:=af) (g:=g) _ _ _ _ x y _ _ (hY f) u D (Q _ _ A) N U hp ahs tD
     have: ∀v e,c8.app ⟨fK d v,[(ey,aa e)],[]⟩ s=({s with H:=a8 s.H ey (aa e)}:S).put d v:=by intro v e;cases d<;>rfl
     grind
    cases h
   cases h
  ·rename_i k gen z off len Z;split at h
   ·rename_i e' c q a A;split at h
    ·rename_i n o;cases h;obtain⟨rfl,rfl,r,_⟩:=p;simp only[b9] at n;have G:=de n.1;have L:=de o;have hp:0<j.size:=by simpa[Nat.blt_eq] using n.2
     subst G;subst L;subst r;rw[pv];exact XO (K:=K) (s:=s) (d:=d) (ty:=ty) (pos:=pos) (af:=af) (g:=g) _ _ x y _ _ _ (hY f) u (dN.of_eq D) (Q _ _ A) N U hp
    cases h
   cases h
  cases h
 cases h
theorem ae8{v:V}{x:T}(h:zP v=aa x):v= .t x:=by
 cases v<;>simp[zP] at h
 grind
theorem Mv{d:dB}: ∀{j:Nat} {a:List V} {r:List T} {c:List (Nat×Nat×V)},xz d j a=aa (r,c)->r.length=a.length/\
  (∀i b v,(i,b,v)∈c->i=0/\ ∃k,b=j+k/\a[k]? =aa v)/\(∀(k:Nat) x,r[k]? =aa x->(∃v,(0,j+k,v)∈c)\/(d.eU (j+k)=aj/\a[k]? =aa (.t x)))
 |j,[],r,c,h=>by cases h;exact⟨rfl,λ_ _ _ h=>bB h List.not_mem_nil,λk x h=>by simp at h⟩
 |j,v::a,r,c,h=>by
  simp only[xz] at h;split at h
  ·cases h
  rename_i L n B;obtain⟨aL,a2,a3⟩:=Mv B;have y: ∀i b eg,(i,b,eg)∈n->i=0/\ ∃k,b=j+k/\(v::a)[k]? =aa eg:=λi b eg hm=>by
   obtain⟨F,k,Q,G⟩:=a2 i b eg hm;exact⟨F,k+1,O,by simpa using G⟩
  split at h
  ·rename_i R z;cases A:v.one with
   |false=>rw[A] at h;cases h
   |true=>
    rw[A] at h;cases h;refine⟨by simp[aL],λi b eg hm=>?_,λk x l=>?_⟩
    ·rcases ez.1 hm with e|hm
     ·cases e;exact⟨rfl,0,rfl,rfl⟩
     exact y i b eg hm
    cases k with
    |zero=>exact .inl ⟨v,eD⟩
    |succ k=>
     have:=a3 k x (by simpa using l);rw[show j+1+k=j+(k+1) by omega] at this;rcases this with ⟨eg,o⟩|⟨m,p⟩
     ·exact .inl ⟨eg,eo _ o⟩
     exact .inr ⟨m,by simpa using p⟩
  rename_i z;split at h
  ·rename_i W q;cases h;refine⟨by simp[aL],y,λk x l=>?_⟩;cases k with
   |zero=>simp at l;subst l;exact .inr ⟨z,by simp[ae8 q]⟩
   |succ k=>
    have:=a3 k x (by simpa using l);rw[show j+1+k=j+(k+1) by omega] at this;rcases this with m|⟨m,p⟩
    ·exact .inl m
    exact .inr ⟨m,by simpa using p⟩
  cases h
theorem afs{u:TypeDesc}{q:Nat}(k:Nat)(hk:s.u k=ak)(o:Array (Nat×Operand))(e:TypeId)(n N:List V)(A:List dB)(m:Nat)(r:List T)(M:List (Nat×Nat×V))(cC: ∀i,d=aa i->dt i K.nt=ab)(B:fU ((o.toList.map (·.2)).map s.get) n)
  (hu:K.P.underlying t=aa (.slice e)) (he:cr K.P e u z size q) (F:b5 o.toList.length n.length=ab) (hp:dt 0 size=ab) (G:db (1*size) 16777216=ab)
  (jh:lL (λi=>aa (i*size,size)) (dA (1*size) .dh) ((o.toList.map (·.1)).zip n)=aa N) (U:xz (aU A m) 0 N=aa (r,M)) (hcl:N.length=size) (vL:(aU A m).size=size) (oi:(aU A m).ty=e):
  ej K ⟨d,.buildSlice t 1 o,ty,pos,af,g⟩ s ((s.new k (.a7 A m 1 [r] M)).put d (.bf k 1 size 0 1)):=by
 have ahK:0<size:=by simpa[Nat.blt_eq] using hp
 obtain⟨zt,alx,aly⟩:=Mv U;intro β a w next Q b7 hkk
 have Jw:dH β w (own K β s.H) n ((o.toList.map (·.2)).map a.eval):=(b7.o8 _).le B;have qv:=wR a.eval o.toList;obtain⟨l,h1,h2⟩:=uT (β:=β) (w:=w) (X:=own K β s.H) (λi=>aa (i*size,size)) (o.toList.map (·.1)) n _ (dA (1*size) .dh)
  ((Array.range (1*size)).map ((if 1*size=0 then #[] else z.cells)[· %(if 1*size=0 then #[] else z.cells).size]!)) _ (B1 _ _ _ _ _ aX) Jw (by simpa using de F) jh
 have L:(execOp a.eval ⟨d,.buildSlice t 1 o,ty,pos,af,g⟩).run K.P w= .ok (.value (.slice (aa ⟨w.heap.size,0,aj⟩) 1 1)) (w.alloc (.cells l e)):=by
  have R:(o.toList.map λx=>match x with|(i,x)=>(i,a.eval x))=(o.toList.map (·.1)).zip ((o.toList.map (·.2)).map a.eval):=by rw[<-qv]
  have bb: ¬(1*size>2^24):=by have:=eO G;omega
  have h0: ¬1*size=0:=O
  simp only[execOp,Instr.buildSlice,fx,run_underlying hu,fu,he.run_sizeOf,bb,if_false,Array.toList_map];simp only[h0,if_false] at h1;simp only[h0,if_false,Sem.run_pure,fx,he.ur,fu];rw[R,h1];rfl
 unfold Oper.wp;rw[L];have p:l.size=size:=by
  have h:=h2.1
  grind
 have W:=b7.Kl k 1 hk l e (.a7 A m 1 [r] M) (λβ' iL w' hw tE Z mJ=>⟨cR _,Or.inr ⟨w.heap.size,l,λ_ _ _=>False,tE,by subst hw;rw[oi];exact kM _ _,by rw[p,vL];simp,λrow b=>by rw[pF.1 b,zt,hcl,vL],λi j row x y aL a2 a3=>by
  have hi:=(bR.1 aL).1;have JD:i=0:=by simpa using hi
  subst JD;simp at aL;subst aL;rw[ih,dQ] at a3;refine⟨λv B=>⟨?_,λ_ h=>h⟩,λcY=>?_⟩
  ·obtain⟨_,cz,f,R⟩:=alx _ _ _ B;rw[dQ] at f;subst f;exact Z _ _ (h2.2 _ _ y R (by simpa using a3))
  rcases aly j x a2 with ⟨v,B⟩|⟨f,R⟩
  ·rw[dQ] at B;exact bB B (cY v)
  rw[dQ] at f;rw[f];have h6:=Z _ _ (h2.2 _ _ y R (by simpa using a3));cases h6 with|t _ _ h=>exact .kP _ _ _ h λ_ h=>h,λ_ _ _ h=>h.elim,λ_ _ _ _ _ h=>h.elim,λc=>⟨λh=>bB h (mJ c),λ⟨_,_,h⟩=>h.elim⟩⟩⟩)
 have D:(w.alloc (.cells l e)).heap.size=w.heap.size+1:=World.size_alloc ..;have iv:(w.alloc (.cells l e)).shape? w.heap.size=aa (e,l.size):=by unfold hv;rw[kM]
 have I:bq (β.put k (aa (aa w.heap.size,1))) (w.alloc (.cells l e)) (own K (β.put k (aa (aa w.heap.size,1))) (s.new k (.a7 A m 1 [r] M)).H) (.bf k 1 size 0 1)
   (.slice (aa ⟨w.heap.size,0*size,aj⟩) 1 1):= .bf k 1 size 0 1 1 w.heap.size l.size e (cR _) (cd _ _ _) (D▸pz _) iv (by rw[p];omega) (cR _) (by unfold maxLen;omega)
 rw[ih] at I;exact hkk _ _ _ (W.put d cC I)
theorem Qw{n j:Nat}{v:V}: ∀{a:List V} {i:Nat},(n,j,v)∈rp i a->j=0/\ ∃k,n=i+k/\a[k]? =aa v
 |x::a,i,h=>by
  simp only[rp] at h;rcases ez.1 h with h|h
  ·cases h;exact⟨rfl,0,rfl,rfl⟩
  obtain⟨e,k,l,c⟩:=Qw h;exact⟨e,k+1,O,by simpa using c⟩
theorem Qv{v:V}: ∀{vs:List V} {i k:Nat},vs[k]? =aa v->(i+k,0,v)∈rp i vs
 |x::vs,i,0,h=>by
  simp at h;subst h;exact eD
 |x::vs,i,k+1,h=>by have:=Qv (i:=i+1) (k:=k) (vs:=vs) (by simpa using h);rw[show i+1+k=i+(k+1) by omega] at this;exact eo _ this
theorem aft{u:TypeDesc}{l B:Nat}(k:Nat)(hk:s.u k=ak)(n:Nat)(q:Array (Nat×Operand))(e:TypeId)(p F:List V)(G:List dB)(m:Nat)(cC: ∀i,d=aa i->dt i K.nt=ab)(M:fU ((q.toList.map (·.2)).map s.get) p)
  (hu:K.P.underlying t=aa (.slice e)) (he:cr K.P e u z l B) (L:b5 q.toList.length p.length=ab) (cY:dt 0 n=ab) (N:l=1) (R:db (n*l) 16777216=ab)
  (jh:lL (λi=>aa (i*l,l)) (dA (n*l) .dh) ((q.toList.map (·.1)).zip p)=aa F) (hcl:F.length=n) (T:(aU G m).size=1) (oi:(aU G m).ty=e):
  ej K ⟨d,.buildSlice t n q,ty,pos,af,g⟩ s ((s.new k (.a7 G m 1 (dA n [.bD []]) (rp 0 F))).put d (.bf k 1 1 0 n)):=by
 subst N;have W:0<n:=by simpa[Nat.blt_eq] using cY
 intro β a w next Q b7 U
 have Jw:dH β w (own K β s.H) p ((q.toList.map (·.2)).map a.eval):=(b7.o8 _).le M;have qv:=wR a.eval q.toList;obtain⟨o,h1,h2⟩:=uT (β:=β) (w:=w) (X:=own K β s.H) (λi=>aa (i*1,1)) (q.toList.map (·.1)) p _ (dA (n*1) .dh)
  ((Array.range (n*1)).map ((if n*1=0 then #[] else z.cells)[· %(if n*1=0 then #[] else z.cells).size]!)) _ (B1 _ _ _ _ _ aX) Jw (by simpa using de L) jh
 have akr:=eO R;have Z:(execOp a.eval ⟨d,.buildSlice t n q,ty,pos,af,g⟩).run K.P w= .ok (.value (.slice (aa ⟨w.heap.size,0,aj⟩) n n)) (w.alloc (.cells o e)):=by
  have e2:(q.toList.map λx=>match x with|(i,x)=>(i,a.eval x))=(q.toList.map (·.1)).zip ((q.toList.map (·.2)).map a.eval):=by rw[<-qv]
  have bb: ¬(n*1>2^24):=O
  have h0: ¬n*1=0:=O
  simp only[execOp,Instr.buildSlice,fx,run_underlying hu,fu,he.run_sizeOf,bb,if_false,Array.toList_map];simp only[h0,if_false] at h1;simp only[h0,if_false,Sem.run_pure,fx,he.ur,fu];rw[e2,h1];rfl
 unfold Oper.wp;rw[Z];have r:o.size=n:=by
  have h:=h2.1;rw[rb] at h;omega
 have b:=b7.Kl k 1 hk o e (.a7 G m 1 (dA n [.bD []]) (rp 0 F)) (λβ' iL w' hw W mK mJ=>⟨cR _,Or.inr ⟨w.heap.size,o,λ_ _ _=>False,W,by subst hw;rw[oi];exact kM _ _,by rw[r,T];simp,λf A=>by rw[(uF.1 A).2,T];rfl,λi j f x y aL a2 a3=>by
  have hi:=(bR.1 aL).1;rw[zW] at hi;have A:f=[.bD []]:=(uF.1 (bx aL)).2;subst A;have hj0:j=0:=by
   have:=(bR.1 a2).1;simpa using this
  subst hj0;rw[T,Nat.mul_one,sv] at a3;refine⟨λv M=>⟨?_,λ_ h=>h⟩,λtF=>?_⟩
  ·obtain⟨_,cz,e1,e2⟩:=Qw M;rw[dQ] at e1;subst e1;exact mK _ _ (h2.2 _ _ y e2 (by simpa using a3))
  have bT:=bp (O:i<F.length)
  have:=Qv (i:=0) bT;rw[dQ] at this;exact bB this (tF _),λ_ _ _ h=>h.elim,λ_ _ _ _ _ h=>h.elim,λc=>⟨λh=>bB h (mJ c),λ⟨_,_,h⟩=>h.elim⟩⟩⟩)
 have D:(w.alloc (.cells o e)).heap.size=w.heap.size+1:=World.size_alloc ..;have iv:(w.alloc (.cells o e)).shape? w.heap.size=aa (e,o.size):=by unfold hv;rw[kM]
 have I:bq (β.put k (aa (aa w.heap.size,1))) (w.alloc (.cells o e)) (own K (β.put k (aa (aa w.heap.size,1))) (s.new k (.a7 G m 1 (dA n [.bD []]) (rp 0 F))).H) (.bf k 1 1 0 n)
   (.slice (aa ⟨w.heap.size,0*1,aj⟩) n n):= .bf k 1 1 0 n n w.heap.size o.size e (cR _) (cd _ _ _) (D▸pz _) iv (by rw[r];omega) (cR _) (by unfold maxLen;omega)
 rw[ih] at I;exact U _ _ _ (b.put d cC I)
theorem afK{u:TypeDesc}{F:Nat}(k:Nat)(hk:s.u k=ak)(n:Nat)(p:Array (Nat×Operand))(e:TypeId)(o:List V)(c:List (List T))(cC: ∀i,d=aa i->dt i K.nt=ab)(bW:fU ((p.toList.map (·.2)).map s.get) o)
  (hu:K.P.underlying t=aa (.slice e)) (he:cr K.P e u z size F) (R:b5 p.toList.length o.length=ab)
  (cY:c.length=n) (hp:dt 0 size=ab) (G: ∀l,l∈c->l.length=size) (B:db (n*size) 16777216=ab)
  (jh:lL (λi=>aa (i*size,size)) (dA (n*size) .dh) ((p.toList.map (·.1)).zip o)=aa (c.flatten.map .t)):
  ej K ⟨d,.buildSlice t n p,ty,pos,af,g⟩ s ((s.new k (.arr e 1 size c)).put d (.bf k 1 size 0 c.length)):=by
 subst cY;have ahK:0<size:=by simpa[Nat.blt_eq] using hp
 intro β a w next Q b7 N
 have U:dH β w (own K β s.H) o ((p.toList.map (·.2)).map a.eval):=(b7.o8 _).le bW;have qv:=wR a.eval p.toList;obtain⟨m,A,L⟩:=uT (β:=β) (w:=w) (X:=own K β s.H) (λi=>aa (i*size,size)) (p.toList.map (·.1)) o _ (dA (c.length*size) .dh)
  ((Array.range (c.length*size)).map ((if c.length*size=0 then #[] else z.cells)[· %(if c.length*size=0 then #[] else z.cells).size]!)) _ (B1 _ _ _ _ _ aX) U (by simpa using de R) jh
 have W:(execOp a.eval ⟨d,.buildSlice t c.length p,ty,pos,af,g⟩).run K.P w= .ok (.value (.slice (aa ⟨w.heap.size,0,aj⟩) c.length c.length)) (w.alloc (.cells m e)):=by
  have e2:(p.toList.map λx=>match x with|(i,x)=>(i,a.eval x))=(p.toList.map (·.1)).zip ((p.toList.map (·.2)).map a.eval):=by rw[<-qv]
  have bb: ¬(c.length*size>2^24):=by have:=eO B;omega
  simp only[execOp,Instr.buildSlice,fx,run_underlying hu,fu,he.run_sizeOf,bb,if_false,Array.toList_map];by_cases M:c.length*size=0
  ·simp only[M,if_true] at A;simp only[M,if_true,Sem.run_pure,fx,fu];rw[e2,A];rfl
  simp only[M,if_false] at A;simp only[M,if_false,Sem.run_pure,fx,he.ur,fu];rw[e2,A];rfl
 unfold Oper.wp;rw[W];have q:m.size=c.flatten.length:=by
  have h:=L.1
  grind
 have Z:c.flatten.length=c.length*size:=by
  rw[List.length_flatten]
  have:c.map List.length=dA c.length size:=List.eq_replicate_iff.2 ⟨aX,λb bb=>by obtain⟨r,b7,rfl⟩:=eA.1 bb;exact G r b7⟩;rw[this];simp
 have f: ∀(c:List (List T)),(∀l,l∈c->l.length=size)-> ∀(i j:Nat) (l:List T) (x:T),c[i]? =aa l->l[j]? =aa x->c.flatten[i*size+j]? =aa x:=by
  intro c;induction c with
  |nil=>intro _ i j l x h _;simp at h
  |cons r c ny=>
   intro hs i j l x A L;have b7:=hs r aX;rw[List.flatten_cons];cases i with
   |zero=>
    simp at A;subst A
    have:=(bR.1 L).1;rw[ih,dQ,jo this];exact L
   |succ i=>
    simp at A;rw[iD (by rw[b7,eu];omega)];rw[show(i+1)*size+j-r.length=i*size+j by rw[b7,eu];omega];exact ny (λl h=>hs l (by simp[h])) i j l x A L
 have v:=b7.new k 1 hk m e (.arr e 1 size c) (λβ' iL w' hw tE mK=>⟨cR _,Or.inr ⟨w.heap.size,m,tE,by subst hw;exact kM _ _,by rw[q,Z];exact cR _,G,λi j l x y aL a2 a3=>by
  have h5:=f c G i j l x aL a2;have h6:=L.2 (i*size+j) (.t x) y (by rw[eK,h5];rfl) (by simpa using a3);have o9:=mK _ _ h6;cases o9 with|t _ _ h=>exact h⟩⟩)
 have D:(w.alloc (.cells m e)).heap.size=w.heap.size+1:=World.size_alloc ..;have iv:(w.alloc (.cells m e)).shape? w.heap.size=aa (e,m.size):=by unfold hv;rw[kM]
 have I:bq (β.put k (aa (aa w.heap.size,1))) (w.alloc (.cells m e)) (own K (β.put k (aa (aa w.heap.size,1))) (s.new k (.arr e 1 size c)).H) (.bf k 1 size 0 c.length)
   (.slice (aa ⟨w.heap.size,0*size,aj⟩) c.length c.length):= .bf k 1 size 0 c.length c.length w.heap.size m.size e (cR _) (cd _ _ _) (D▸pz _) iv (by rw[q,Z];simp) (cR _)
    (by
     have bb:=eO B;unfold maxLen
     have:c.length*1<=c.length*size:=Nat.mul_le_mul_left _ O;omega)
 rw[ih] at I;exact N _ _ _ (v.put d cC I)
theorem abR{C:eb}(f:ek K.P C.cq){n:Nat}{o:Array (Nat×Operand)}{a:List V}{v Q:List cB}{D:List dE}(I: ∀k,u k=ak->s.u k=ak)(F:kO K.nt d=ab)
  (R:a=(o.toList.map (·.2)).map s.get) (h:ID C d t n (o.toList.map (·.1)) u a v=aa (e,D,Q)) (W:cy D):ej K ⟨d,.buildSlice t n o,ty,pos,af,g⟩ s (e.app s):=by
 unfold ID at h;split at h
 ·cases h
 rename_i i M;split at h
 ·rename_i q Z;have G:K.P.underlying t=aa (.slice q):=(f _ _ M).jn.2.2.2 q Z;split at h
  ·cases h
  rename_i j N;obtain⟨r0,L,_⟩:=f _ _ N;split at h
  ·rename_i k v b;split at h
   ·rename_i p;cases h
    have:o= #[]:=by
     have:o.toList=[]:=by simpa using b
     grind
    subst this;rw[sD];exact acp k (I _ p) q (hY F) G L
   cases h
  ·split at h
   ·cases h
   rename_i cs l;split at h
   ·cases h
   rename_i r m;split at h
   ·rename_i T p x y U;cases h;have c:=de p;obtain⟨z,A,B⟩:=BS j.size _ r c;rw[sD];refine afK _ (I _ T) _ o q (ib a) _ (hY F) (by rw[R];exact nL _) G L (by rw[uc];simpa using x) z U A y (by rw[l,B,po m])
   cases h
  ·split at h
   ·cases h
   rename_i cs l;split at h
   ·cases h
   rename_i r m;split at h
   ·rename_i p x y;cases h;have c:=de p;obtain⟨z,A,B⟩:=BS j.size _ r c;rw[pv];rw[<-W.1];refine K' (vals:=ib a) (hY F) ?_ (LC _ o q (ib a) _ G L ?_ (by simp[z]) A y (by rw[l,B,po m]))
    ·rw[R];simp only[Op.operands];exact nL _
    rw[uc];simpa using x
   cases h
  ·split at h
   ·cases h
   rename_i cs l;split at h
   ·cases h
   rename_i r m;split at h
   ·rename_i p x y;cases h;have c:=de p;obtain⟨z,A,B⟩:=BS j.size _ r c;rw[pv];refine K' (vals:=ib a) (hY F) ?_ (LC _ o q (ib a) _ G L ?_ (by simp[z]) A y (by rw[l,B,po m]))
    ·rw[R];simp only[Op.operands];exact nL _
    rw[uc];simpa using x
   cases h
  cases h
 cases h
theorem aas{C:eb}(R:ek K.P C.cq){n:Nat}{c:Array (Nat×Operand)}{a:List V}{p:List cB}{o:List dE}(W: ∀k,u k=ak->s.u k=ak)(Z:kO K.nt d=ab)
  (b:a=(c.toList.map (·.2)).map s.get) (h:Iy C d t n (c.toList.map (·.1)) u a l=aa (e,o,p)):ej K ⟨d,.buildSlice t n c,ty,pos,af,g⟩ s (e.app s):=by
 unfold Iy at h;split at h
 ·cases h
 rename_i i D;split at h
 ·rename_i z B;have f:K.P.underlying t=aa (.slice z):=(R _ _ D).jn.2.2.2 z B;split at h
  ·cases h
  rename_i j I;obtain⟨T,v,_⟩:=R _ _ I;split at h
  ·rename_i k A m l;split at h
   ·cases h
   rename_i cs x;split at h
   ·cases h
   rename_i r M F;split at h
   ·rename_i G y q L Q;cases h;simp only[b9] at y q;rw[sD];exact afs k (W _ G) c z (vv ((aU A m).eU 0) a) cs A m r M (hY Z) (by rw[b];exact aef _ _) f v (by rw[XS];simpa using q.1) Q L x F (de y.1) (de y.2) (de q.2)
   cases h
  ·rename_i k A m l _;split at h
   ·cases h
   rename_i cs x;split at h
   ·rename_i G y q L Q;cases h;simp only[b9] at y q;have N:=de y.1;rw[sD];exact aft k (W _ G) _ c z (ib a) cs A m (hY Z) (by rw[b];exact nL _) f v (by rw[uc];simpa using q.1) Q N L x (de y.2.1) (de q.2.2) (de q.2.1)
   cases h
  cases h
 cases h
theorem aaw{C:eb}(z:C.P=K.P)(A:C.G=K.G){c:Operand}{k:Array TypeId}{a:List V}(B:kO K.nt d=ab)
  (r:a=s.get c::i.toList.map s.get) (h:Il C d a n=aa (e,m,l)) (x:cy m):ej K ⟨d,.call {callee:= .value c,args:=i,argTypes:=k},ty,pos,af,g⟩ s (e.app s):=by
 unfold Il at h;split at h
 ·rename_i f o args;split at h
  ·split at h
   ·rename_i p;cases h;rw[pv];obtain⟨⟨y,q⟩,_⟩:=x;rw[z] at y q;rw[A] at q;simp only[List.cons.injEq] at r;exact PL o _ _ y r.1.symm (hY B) (by rw[<-r.2];exact nL _) p q
   cases h
  ·cases h;rw[pv];obtain⟨p,⟨y,q⟩,_⟩:=x;rw[z] at y q;rw[A] at q;simp only[List.cons.injEq] at r;exact PL o _ _ y r.1.symm (hY B) (by rw[<-r.2];exact nL _) p q
  cases h
 cases h
mutual
theorem Pu{T W:Map}{w a:World}{X Z:Nat->Prop}: ∀{v:V} {u:Value},s8 v=ab->bq T w X v u->bq W a Z v u
 | .t (.int _ _),u,_,h=>by rw[dP h];exact .t _ _ (.int _ _)
 | .t (.bool _),u,_,h=>by rw[ow h];exact .t _ _ (.bool _)
 | .t (.str _),u,_,h=>by rw[ir h];exact .t _ _ (.str _)
 | .agg cs,u,e,h=>by
  simp only[s8] at e;cases h with|agg _ l m h=>exact .agg _ l m (λi c u k n=>GQ e i c u k (h i c u k n))
 | .bL cs,u,e,h=>by
  simp only[s8] at e;cases h with|bL _ l m h=>exact .bL _ l m (λi c u k n=>GQ e i c u k (h i c u k n))
 | .t (.bD _),_,e,_| .t .fT,_,e,_| .t .iz,_,e,_| .t .hl,_,e,_| .t .oz,_,e,_| .t .err,_,e,_=>by simp[s8] at e
 | .ref _ _,_,e,_| .aS _,_,e,_| .bf _ _ _ _ _,_,e,_| .cK _ _ _ _ _,_,e,_| .fn _ _,_,e,_| .dh,_,e,_=>by simp[s8] at e
theorem GQ{T W:Map}{w a:World}{X Z:Nat->Prop}: ∀{cs:List V},vf cs=ab-> ∀(i:Nat) c u,cs[i]? =aa c->bq T w X c u->bq W a Z c u
 | [],_,_,_,_,h,_=>by simp at h
 |c::cs,e,0,l,u,k,h=>by
  simp only[vf,b9] at e;simp at k;subst k;exact Pu e.1 h
 |c::cs,e,i+1,l,u,k,h=>by simp only[vf,b9] at e;exact GQ e.2 i l u (by simpa using k) h
end
theorem cX.read{β:Map}{w:World}{X Z:Nat->Prop}{a:List (List T)}{u:Value}(h:cX β w X k (.arr t gen size a))(B:bq β w X (.bf k gen size 0 a.length) u)
  (F: ∀b,Z b->X b) (G: ∀b,At β k b-> ¬Z b):df w Z (.bD a) u:=by
 obtain⟨q,r⟩:=l7 h;rcases d4 B r with ⟨y,b,n,L,rfl,m,Q,I,R,W,M⟩|⟨m,_,f,rfl⟩
 ·subst m;rcases h.2 with ⟨o,z⟩|⟨N,l,o,z,P,A,v⟩
  ·rw[r] at o;cases o
  rw[r] at o;cases o;rw[ih];refine .bD a b 0 size y (λi j=>l.getD (i*size+j) undef) Q (G b (.inl ⟨_,r⟩)) W A (λi j hi D=>?_) λi j p x aL a2=>?_
  ·have c:i*size+j<l.size:=by
    have:(i+1)*size<=a.length*size:=eh _ hi;rw[eu] at this;omega
   rw[dQ];simp[World.cell?,z,c]
  have hi:=(bR.1 aL).1;have D:j<size:=by rw[<-A p (bx aL)];exact(bR.1 a2).1
  have c:i*size+j<l.size:=by
   have:(i+1)*size<=a.length*size:=eh _ hi
   grind
  have:=v i j p x l[i*size+j] aL a2 (by simp[c]);have e:l.getD (i*size+j) undef=l[i*size+j]:=by simp[c]
  rw[e];exact this.mono (Ext.refl _ _) λb _=>F b
 have:a=[]:=List.length_eq_zero_iff.1 f;subst this;exact .gW _ _
theorem cX.ajF{β:Map}{w:World}{X L:Nat->Prop}{l:List dB}{m:Nat}{a:List (List T)}{u:Value}(h:cX β w X k (.a7 l m gen a []))(f:bq β w X (.bf k gen (aU l m).size 0 a.length) u)
  (t: ∀b,L b->X b) (R: ∀b,At β k b-> ¬L b):df w L (.bD a) u:=by
 obtain⟨q,F⟩:=uX h;rcases d4 f F with ⟨Q,b,n,v,rfl,o,D,hs,I,M,hm⟩|⟨o,_,N,rfl⟩
 ·subst o;rcases h.2 with ⟨p,W⟩|⟨je,r,B,p,W,h3,Z,P,_,_,U⟩
  ·rw[F] at p;cases p
  rw[F] at p;cases p;rw[ih];have y: ∀i j,i<a.length->j<(aU l m).size->i*(aU l m).size+j<r.size:=λi j hi G=>by
   have:(i+1)*(aU l m).size<=a.length*(aU l m).size:=eh _ hi
   grind
  refine .bD a b 0 (aU l m).size Q (λi j=>r.getD (i*(aU l m).size+j) undef) D (R b (.inl ⟨_,F⟩)) M Z (λi j hi G=>?_) λi j z x aL a2=>?_
  ·have:=y i j hi G;rw[dQ];simp[World.cell?,W,this]
  have hi:=(bR.1 aL).1;have G:j<(aU l m).size:=by rw[<-Z z (bx aL)];exact(bR.1 a2).1
  have A:=y i j hi G
  have:=(P i j z x r[i*(aU l m).size+j] aL a2 (by simp[A])).none;have e:r.getD (i*(aU l m).size+j) undef=r[i*(aU l m).size+j]:=by simp[A]
  rw[e];exact this.zO t λc V=>R c (.inr ((U c).2 ⟨i,j,V⟩))
 have:a=[]:=List.length_eq_zero_iff.1 N;subst this;exact .gW _ _
def u9:V->List Nat
 | .bf k _ _ _ _=>[k]
 |_=>[]
mutual
def rk(H:Nat->Option E):V->List Nat
 | .bf k _ _ _ _=>[k]
 | .ref id _=>id::(match H id with
  |some (.cells cs)=>cs.flatMap u9
  |_=>[])
 | .agg cs=>pS H cs
 | .bL cs=>pS H cs
 | .fn _ cs=>pS H cs
 | .t _| .aS _| .cK _ _ _ _ _| .dh=>[]
def pS(H:Nat->Option E):List V->List Nat
 | []=>[]
 |v::a=>rk H v++pS H a
end
section
variable {β:Map}{w:World}{X X1:Nat->Prop}{H:Nat->Option E}
theorem Qc{v:V}{x:T}{r:List dE}{u:Value}(q: ∀k e,H k=aa e->cX β w X k e)(l: ∀b,X1 b->X b)(z: ∀k,k∈u9 v-> ∀b,At β k b-> ¬X1 b)
  (h:yB H v=aa (x,r)) (a:cy r) (n:bq β w X v u):df w X1 x u:=by
 cases v with
 |bf k gen A B F=>
  simp only[yB] at h;split at h
  ·rename_i ty c o i p;cases h;obtain⟨rfl,rfl,rfl,rfl,_⟩:=a;exact(q k _ p).read n l (z k (by simp[u9]))
  ·rename_i G m c i p;cases h;obtain⟨rfl,rfl,rfl,rfl,_⟩:=a;exact(q k _ p).ajF n l (z k (by simp[u9]))
  cases h
 |t y=>
  simp only[yB] at h;cases h;cases n with|t _ _ h=>exact(h.mono (Ext.refl _ _) λb _=>l b).zr
 |agg=>cases h
 |bL=>cases h
 |ref=>cases h
 |aS=>cases h
 |cK=>cases h
 |fn=>cases h
 |dh=>cases h
theorem Px(r: ∀k e,H k=aa e->cX β w X k e)(z: ∀b,X1 b->X b): ∀{a:List V} {ga:List T} {n:List dE},(∀k,k∈a.flatMap u9-> ∀b,At β k b-> ¬X1 b)->C3 H a=aa (ga,n)->cy n->
  ga.length=a.length/\ ∀(l:Nat->Option Value),(∀(i:Nat) c u,a[i]? =aa c->l i=aa u->bq β w X c u)-> ∀(i:Nat) x u,ga[i]? =aa x->l i=aa u->df w X1 x u
 | [],_,_,_,h,_=>by cases h;exact⟨rfl,λ_ _ i x u F=>by simp at F⟩
 |v::a,ga,n,A,h,o=>by
  simp only[C3] at h;split at h
  ·rename_i x G I L Q R;cases h;obtain⟨W,Z⟩:=cy.app o;obtain⟨f,t⟩:=Px r z (λk p=>A k (by rw[nR];exact jq _ p)) R Z;refine⟨by simp[f],λl B i y u q m=>?_⟩;cases i with
   |zero=>
    simp at q;subst q;exact Qc r z (λk p=>A k (by rw[nR];exact ka _ p)) Q W (B 0 v u rfl m)
   |succ i=>
    exact t (λj=>l (j+1)) (λj c u D m=>B (j+1) c u (by simpa using D) m) i y u (by simpa using q) m
  cases h
mutual
theorem ad'(L: ∀k e,H k=aa e->cX β w X k e)(B: ∀b,X1 b->X b): ∀(v:V) {r:V} {y:List dE} {u:Value},(∀k,k∈rk H v-> ∀b,At β k b-> ¬X1 b)->
  n0 H v=aa (r,y)->cy y->bq β w X v u->bq h8 w X1 r u
 | .bf k gen I l len,r,y,u,q,h,a,o=>by
  simp only[n0] at h;split at h
  ·rename_i x z A;cases h;exact .t _ _ (Qc L B (λj R=>q j (by simpa[rk,u9] using R)) A a o)
  cases h
 | .t x,r,y,u,q,h,a,o=>by
  simp only[n0] at h;cases h;cases o with|t _ _ h=>exact .t _ _ (h.mono (Ext.refl _ _) λb _=>B b).zr
 | .aS cs,r,y,u,q,h,a,o=>by
  simp only[n0] at h;cases h;exact o.under (u:=hg) B (λ_ h=>by simp[hg] at h) rfl
 | .ref id l,r,y,u,q,h,a,o=>by
  simp only[n0] at h;split at h
  ·rename_i cs m;split at h
   ·rename_i ga z A;cases h;obtain⟨b,M,rfl⟩:=sL o;obtain⟨je,n,ty,N,P,ns,tm⟩:=L id _ m;rw[M] at N;cases N;obtain⟨W,F⟩:=Px L B (λk G=>q k (by simp only[rk,m];exact eo _ G)) A a;have Z:b<w.heap.size:=by
     have:=(kA.1 P).1;exact this
    refine .aS (ga.drop l) b l (λj=>n.getD (l+j) undef) Z (q id (by simp[rk]) b (.inl ⟨_,M⟩)) (λj R=>?_) λj x D=>?_
    ·rw[fM] at R
     have:l+j<n.size:=O
     simp[World.cell?,P,this]
    rw[gY] at D;have R:=(bR.1 D).1
    have:l+j<n.size:=O
    have e:n.getD (l+j) undef=n[l+j]:=by simp[this]
    rw[e];exact F (λi=>n[i]?) (λi c u m p=>tm i c u m p) (l+j) x _ D (by simp[this])
   cases h
  cases h
 | .agg cs,r,y,u,q,h,a,o=>by
  simp only[n0] at h;split at h
  ·rename_i T z A;cases h;cases o with|agg _ n U Q=>
   obtain⟨W,F⟩:=x4 L B cs (λk G=>q k (by simpa[rk] using G)) A a;exact .agg _ n O λi c u m p=>F (λi=>n[i]?) (λi c u m p=>Q i c u m p) i c u m p
  cases h
 | .bL cs,r,y,u,q,h,a,o=>by
  simp only[n0] at h;split at h
  ·rename_i T z A;cases h;cases o with|bL _ n U Q=>
   obtain⟨W,F⟩:=x4 L B cs (λk G=>q k (by simpa[rk] using G)) A a;exact .bL _ n O λi c u m p=>F (λi=>n[i]?) (λi c u m p=>Q i c u m p) i c u m p
  cases h
 | .fn f cs,r,y,u,q,h,a,o=>by
  simp only[n0] at h;split at h
  ·rename_i T z A;cases h;cases o with|fn _ _ n U Q=>
   obtain⟨W,F⟩:=x4 L B cs (λk G=>q k (by simpa[rk] using G)) A a;exact .fn _ _ n O λi c u m p=>F (λi=>n[i]?) (λi c u m p=>Q i c u m p) i c u m p
  cases h
 | .cK _ _ _ _ _,_,_,_,_,h,_,_=>by simp only[n0] at h;cases h
 | .dh,_,_,_,_,h,_,_=>by simp only[n0] at h;cases h
theorem x4(z: ∀k e,H k=aa e->cX β w X k e)(A: ∀b,X1 b->X b): ∀(l:List V) {a:List V} {o:List dE},(∀k,k∈pS H l-> ∀b,At β k b-> ¬X1 b)->
  p6 H l=aa (a,o)->cy o->a.length=l.length/\ ∀(m:Nat->Option Value),(∀(i:Nat) c u,l[i]? =aa c->m i=aa u->bq β w X c u)-> ∀(i:Nat) x u,a[i]? =aa x->m i=aa u->bq h8 w X1 x u
 | [],_,_,_,h,_=>by simp only[p6] at h;cases h;exact⟨rfl,λ_ _ i x u G=>by simp at G⟩
 |v::l,a,o,B,h,p=>by
  simp only[p6] at h;split at h
  ·rename_i x L M Q R W;cases h;obtain⟨Z,f⟩:=cy.app p;obtain⟨t,D⟩:=x4 z A l (λk q=>B k (by simp only[pS];exact jq _ q)) W f;refine⟨by simp[t],λm F i y u r n=>?_⟩;cases i with
   |zero=>
    simp at r;subst r;exact ad' z A v (λk q=>B k (by simp only[pS];exact ka _ q)) R Z (F 0 v u rfl n)
   |succ i=>
    exact D (λj=>m (j+1)) (λj c u I n=>F (j+1) c u (by simpa using I) n) i y u (by simpa using r) n
  cases h
end
theorem aea(r: ∀k e,H k=aa e->cX β w X k e)(x: ∀b,X1 b->X b): ∀{l a:List V} {m:List dE} {us:List Value},(∀k,k∈pS H l-> ∀b,At β k b-> ¬X1 b)->
  p6 H l=aa (a,m)->cy m->dH β w X l us->dH h8 w X1 a us:=fun {l a m us} y h n q=>by obtain⟨z,A⟩:=x4 r x l y h n;exact Gb (by rw[z];exact q.cW.1) λi c u o p=>A (λi=>us[i]?) (λi c u o p=>q.cW.2 i c u o p) i c u o p
end
theorem acS{C:eb}(yK:C.P=K.P)(kS:C.G=K.G){c:Operand}{x:Array TypeId}{l:List V}{H:Nat->Option E}{N:List cB}{T:List dE}(cC:kO K.nt d=ab)(hH: ∀k e,H k=aa e->s.H k=aa e)
  (R:l=s.get c::i.toList.map s.get) (h:IV C d H l N=aa (e,T,L)) (W:cy T):ej K ⟨d,.call {callee:= .value c,args:=i,argTypes:=x},ty,pos,af,g⟩ s (e.app s):=by
 unfold IV at h;split at h
 ·rename_i f m args;split at h
  ·rename_i r N;split at h
   ·rename_i ys ale n Z;cases h;rw[pv];obtain⟨zt,⟨y,o⟩,_⟩:=cy.app W;rw[yK] at y o;rw[kS] at o;simp only[List.cons.injEq] at R;obtain⟨U,h1,h2,h3⟩:=y;intro β a w next Q q j
    have t:U.name≠ "runtime.NumGoroutine" :=by simpa using h2
    have v:U.body≠aj:=by intro e;simp[e] at h3
    obtain⟨us,D,I⟩:=(R.1.symm▸q.get c).Jh;have z:(execOp a.eval ⟨d,.call {callee:= .value c,args:=i,argTypes:=x},ty,pos,af,g⟩).run K.P w= .ok (.enter f (i.map a.eval++us)) w:=by
     simp[execOp,resolve,Deferred.ofValue,D,invoke,callFunc,h1,t,v]
    unfold Oper.wp;rw[z,Oper.upon_enter];have A:dH β w (own K β s.H) (args++m) (i.toList.map a.eval++us.toList):=by rw[R.2];exact(q.o8 i.toList).app I
    let X1:Nat->Prop:=λb=>own K β s.H b/\ ∀k,k∈pS H (args++m)-> ¬At β k b;have p:=aea (X1:=X1) (λk e M=>(q.heap k e (hH k e M)).2) (λb n=>n.1) (λk j b n hx=>hx.2 k j n) n zt A;have B:=o w X1 _ q.Dq (λb n=>q.Ko b n.1) p;have M:(List.map a.eval i.toList++us.toList).toArray=i.map a.eval++us:=by rw[<-w4,<-Array.toList_append]
    rw[M] at B;refine B.mono ?_;rintro e w' ⟨u,rfl,F,hu⟩;exact j β _ w' ((q.grow F).put d (hY cC) (Pu Z hu))
   cases h
  cases h
 cases h
theorem adY{C:eb}(M:C.P=K.P)(N:C.G=K.G){c:Operand}{Q:Array Operand}{x:Array TypeId}{m:List V}{H:Nat->Option E}{b R:List cB}{t:List dE}(T:kO K.nt d=ab)
  (U: ∀k e,H k=aa e->s.H k=aa e) (hu: ∀k,u k=ak->s.u k=ak)
  (z:m=s.get c::Q.toList.map s.get) (h:IZ C d m H u b=aa (e,t,R)) (W:cy t):ej K ⟨d,.call {callee:= .value c,args:=Q,argTypes:=x},ty,pos,af,g⟩ s (e.app s):=by
 unfold IZ at h;split at h
 ·rename_i f A args;split at h
  ·rename_i L a r out b;split at h
   ·rename_i Z hL gI hi n;cases h;simp only[List.cons.injEq] at z;simp only[b9] at n;obtain⟨⟨p,B⟩,i⟩:=n;have i:=de i;obtain⟨⟨D,q⟩,_⟩:=W;rw[M] at D q;rw[N] at q;obtain⟨aL,a2⟩:=x' _ _ gI;obtain⟨i1,i2⟩:=BJ _ _ hi;have hx:=aaI (K:=K) (s:=s) (o:=⟨d,.call {callee:= .value c,args:=Q,argTypes:=x},ty,pos,af,g⟩) c L a A rfl z.1.symm D (hY T) (by rw[<-z.2,aL];exact nL _) a2 i1
     (λk e l=>by
      obtain⟨id,h1,h2,h4⟩:=i2 k e l;exact⟨id,h1,U _ _ h2,h4⟩)
     (Bf p) (λid hid=>hu _ (Mt B id hid)) (λ_=>i) q
    have hj:=hx.j;have l:c8.app ⟨fK d (r.eB (L++a)),(L++a).zip (out.map λe=>aa (e.eB (L++a))),(L++a).map λk=>(k,ab)⟩ s=(s.after (L++a) out).put d (r.eB (L++a)):=by
     have e1:dw s.H ((L++a).zip (out.map λe=>aa (e.eB (L++a))))=l3 s.H (L++a) (λk=>(out[k]?).map (E.eB (L++a))):=by
      have:=MH (L++a) (Bf p) s.H (out.map λe=>aa (e.eB (L++a))) (λk=>(out[k]?).map (E.eB (L++a))) (by simpa using i) (λk e l=>by
       rw[eK] at l;cases I:out[k]? with
       |none=>rw[I] at l;cases l
       |some y=>rw[I] at l;simp at l;rw[<-l];rfl)
      exact this
     have e2:dw s.u ((L++a).map λk=>(k,ab))=l3 s.u (L++a) (λ_=>ab):=by
      funext id;by_cases F:id∈L++a
      ·obtain⟨k,hk⟩:=jO.1 F;rw[pf (Bf p) hk];exact MJ F
      rw[oo F,nA _ _ _ λv z=>F (by obtain⟨y,hy,e⟩:=eA.1 z;cases e;exact hy)]
     unfold c8.app S.after;cases d<;>simp only[fK,dw,S.put,e1,e2]
    grind
   cases h
  cases h
 cases h
theorem Zg{C:eb}(r:ek K.P C.cq){H:Nat->Option E}{v:V}(y: ∀k e,H k=aa e->s.H k=aa e)
  (z:s.get x=v) (h:H5 C t H v l=aa (e,m,c)) (a:cy m):ej K ⟨aj,.call {callee:= .builtin .clear,args:= #[x],argTypes:= #[t]},ty,pos,af,g⟩ s (e.app s):=by
 unfold H5 at h;split at h
 ·cases h
 rename_i i A;split at h
 ·rename_i n o;have B:K.P.underlying t=aa (.slice n):=(r _ _ A).jn.2.2.2 n o;split at h
  ·cases h
  rename_i j F;obtain⟨W,G,_⟩:=r _ _ F;split at h
  ·rename_i p;split at h
   ·rename_i L Q;cases h;obtain⟨rfl,rfl,q,⟨R,rfl⟩,_⟩:=a;exact aes x _ _ _ n _ _ _ z (y _ _ L) B G Q p q R
   cases h
  cases h
 cases h
theorem aat{C:eb}(B:ek K.P C.cq){F:TypeId}{H:Nat->Option E}{v w:V}{G:List cB}{L:List dE}(Z: ∀k e,H k=aa e->s.H k=aa e)(b:kO K.nt d=ab)
  (f:s.get x=v) (u:s.get y=w) (h:Ii C d t H v w G=aa (e,L,n)) (o:cy L):ej K ⟨d,.call {callee:= .builtin .copy,args:= #[x,y],argTypes:= #[t,F]},ty,pos,af,g⟩ s (e.app s):=by
 unfold Ii at h;split at h
 ·cases h
 rename_i i D;split at h
 ·rename_i p q;have I:K.P.underlying t=aa (.slice p):=(B _ _ D).jn.2.2.2 p q;split at h
  ·cases h
  rename_i j Q;obtain⟨r0,M,_⟩:=B _ _ Q;split at h
  ·rename_i k gen W r z a R m G N;split at h
   ·rename_i T c A l U hp;cases h;obtain⟨rfl,rfl,rfl,rfl,b7,⟨cI,rfl⟩,_⟩:=o;have Q:=afu (K:=K) (s:=s) (d:=d) (ty:=ty) (pos:=pos) (af:=af) (g:=g) (gen:=c) (size:=j.size) x y k r z p T F l a (hY b) f (by rw[u,<-N];exact u7 w) (Z _ _ U) I M (by simpa[Nat.blt_eq] using hp) b7 cI
    have: ∀v e,c8.app ⟨fK d v,[(k,aa e)],[]⟩ s=({s with H:=a8 s.H k (aa e)}:S).put d v:=by intro v e;cases d<;>rfl
    grind
   cases h
  cases h
 cases h
theorem ae3{C:eb}(z:ek K.P C.cq)(D:C.P=K.P)(N:C.G=K.G)(cY:C.nt=K.nt)(T:C.dV=K.dV){m:List V}{H:Nat->Option E}{I W:List cB}{Z:List dE}
  (a:m=o.op.operands.toList.map s.get) (F: ∀k e,H k=aa e->s.H k=aa e) (R: ∀k,u k=ak->s.u k=ak) (h:Jg C o m H u I=aa (e,Z,W)) (l:cy Z):ej K o s (e.app s):=by
 obtain⟨d,b,ty,pos,af,g⟩:=o;unfold Jg at h;dsimp only at h;split at h
 ·cases h
 rename_i q;rw[cY] at q;have L: ∀{b:Op} {r:jT},m=b.operands.toList.map s.get->(match yG C.P C.cq H b m I with|some (v,Z,I)=>aa ((⟨fK d v,[],[]⟩:c8),Z,I)|none=>aj)=aa (e,Z,W)->ej K ⟨d,b,ty,pos,af,g⟩ s (e.app s):=by
  intro b r a h;split at h
  ·rename_i v ald akK n;cases h;rw[pv];rw[D] at n;exact XD (vals:=m) (hY q) (fU.of_eq a.symm) ((ae2 z n l).sub F)
  cases h
 split at h
 ·split at h
  ·simp only[Op.operands,gd,List.map_nil,List.cons.injEq,and_true] at a;split at h
   ·exact aax q a.symm h
   exact acR R q a.symm h
  cases h
 ·split at h
  ·rename_i i hi;exact Zi z hi R q h
  cases h
 ·split at h
  ·simp only[Op.operands,gd,List.map_nil,List.cons.injEq,and_true] at a;split at h
   ·rename_i n;cases h;exact ZC z rfl F a.1.symm a.2.symm n l
   exact Yz z F a.1.symm a.2.symm h l
  cases h
 ·split at h
  ·simp only[Op.operands,gd,List.map_nil,List.cons.injEq,and_true] at a;exact aar z R q a.1.symm a.2.symm h l
  cases h
 ·split at h
  ·rename_i n;cases h;exact abR z R q (by simpa[Op.operands] using a) n l
  exact aas z R q (by simpa[Op.operands] using a) h
 ·rename_i c;obtain⟨M,args,Q⟩:=c;dsimp only at h;split at h
  ·rename_i f;split at h
   ·exact adY D N q F R (by simpa[Op.operands,Call.operands] using a) h l
   split at h
   ·exact acS D N q F (by simpa[Op.operands,Call.operands] using a) h l
   exact aaw D N q (by simpa[Op.operands,Call.operands] using a) h l
  ·split at h
   ·rename_i x y t U v w j A;have B:args= #[x,y]:=by rw[<-j]
    have p:Q= #[t,U]:=by rw[<-A]
    subst B;subst p;simp only[Op.operands,Call.operands] at a;simp at a;split at h
    ·rename_i n;cases h;exact YB z T F q a.1.symm a.2.symm n l
    exact XG z F q a.1.symm a.2.symm h l
   cases h
  ·split at h
   ·rename_i x t v j A;have B:args= #[x]:=by rw[<-j]
    have p:Q= #[t]:=by rw[<-A]
    subst B;subst p;simp only[Op.operands,Call.operands] at a;simp at a;exact Zg z F a.symm h l
   cases h
  ·split at h
   ·rename_i x y t U v w j A;have B:args= #[x,y]:=by rw[<-j]
    have p:Q= #[t,U]:=by rw[<-A]
    subst B;subst p;simp only[Op.operands,Call.operands] at a;simp at a;exact aat z F q a.1.symm a.2.symm h l
   cases h
  ·exact L (r:=aj) a h
  cases h
 exact L (r:=aj) a h
def aiz:V->List Nat
 | .ref id _=>[id]
 | .bf id _ _ _ _=>[id]
 | .cK id _ _ _ _=>[id]
 |_=>[]
def IY:List V->List Nat
 | []=>[]
 |v::a=>aiz v++IY a
def SX:List cB->List Nat
 | .nat k::a=>k::SX a
 |_=>[]
def aiy:List cB->List Nat
 | .b ab::c=>SX c
 | .nat k::_=>[k]
 | .int _:: .nat k::_=>[k]
 | .dR L a _ _::_=>L++a
 | .lt k _ _::_=>[k]
 |_=>[]
def jv(k:Nat):List Nat->Bool
 | []=>ak
 |x::l=>bif b5 x k then ab else jv k l
theorem B8{k:Nat}: ∀{l:List Nat},jv k l=ab->k∈l
 | [],h=>by cases h
 |x::l,h=>by
  simp only[jv] at h;cases a:b5 x k with
  |true=>rw[de a];exact eD
  |false=>rw[a] at h;exact eo _ (B8 h)
def vi(a:List Nat)(H:Nat->Option E):Nat->Option E:=λk=>bif jv k a then H k else aj
def vh(a:List Nat)(u:Nat->Bool):Nat->Bool:=λk=>bif jv k a then u k else ab
theorem YF{H:Nat->Option E}{e:E}(h:vi r H k=aa e):H k=aa e:=by
 unfold vi at h
 grind
theorem XR(h:vh r u k=ak):u k=ak:=by
 unfold vh at h
 grind
def afI:Op->List V->Bool
 | .nilCheck _,[.cK _ _ _ _ _]=>ak
 | .move _,_| .assign _,_| .pick _ _ _,_| .nilCheck _,_| .binOp _ _ _ _ _,_| .unOp _ _ _,_| .convert _ _ _,_| .makeFunc _ _ _,_| .extract _ _,_| .field _ _ _,_| .build _ _,_=>ab
 | .fieldAddr _ _ _,[.ref _ _]=>ab
 |_,_=>ak
def afE:Op->Bool
 | .load _ _| .slice _ _ _ _ _| .fieldAddr _ _ _| .indexAddr _ _ _| .index _ _ _| .nilCheck _=>ab
 | .call c=>match c.callee with
  | .builtin .len=>ab
  | .builtin .max=>ab
  | .builtin .min=>ab
  |_=>ak
 |_=>ak
def v'(o:Oper)(a:List V)(c:List cB):List Nat:=match afI o.op a with
 |true=>[]
 |false=>match afE o.op with
  |true=>IY a
  |false=>IY a++aiy c
def rE(C:eb)(o:Oper)(a:List V)(s:S)(c:List cB):jT:=Jg C o a (vi (v' o a c) s.H) (vh (v' o a c) s.u) c
def J9:Bool->Bool->Bool
 |true,ab=>ab
 |false,ak=>ab
 |_,_=>ak
def vG(a:Array Oper)(j:Nat)(s:S):Option V:=match (a[j]?).bind (·.dst) with
 |some t=>aa (s.t t)
 |none=>aj
def tp(C:eb)(h:Array Oper)(o:Oper)(a:List cB)(s:S):jT:=
 match o.guard with
 |none=>rE C o (o.op.operands.toList.map s.get) s a
 |some (j,c)=>match vG h j s with
  |some (.bL [])=>match kO C.nt o.dst with
   |true=>aa (⟨fK o.dst (.bL []),[],[]⟩,[],a)
   |false=>aj
  |some (.t (.bool b))=>match a with
   | .b w::a=>match J9 w c with
    |true=>match rE C o (o.op.operands.toList.map s.get) s a with
     |some (e,i,a)=>aa (e,.p (b=w)::i,a)
     |none=>aj
    |false=>match kO C.nt o.dst with
     |true=>aa (⟨fK o.dst (.bL []),[],[]⟩,[.p (b=w)],a)
     |false=>aj
   |_=>aj
  |_=>aj
end
structure eb.Fits (C:eb) (K:Ctx):Prop where
 T:ek K.P C.cq
 P:C.P=K.P
 G:C.G=K.G
 nt:C.nt=K.nt
 dV:C.dV=K.dV
 ha:C.ha=K.ha
section
variable {K:Ctx}{s:S}{C:eb}
theorem Q4(a:C.Fits K)(h:rE C o (o.op.operands.toList.map s.get) s l=aa (e,m,c))(i:cy m):ej K o s (e.app s):=
 ae3 a.T a.P a.G a.nt a.dV rfl (λ_ _ h=>YF h) (λ_ h=>XR h) h i
theorem acs{w v:Bool}(h:J9 w v=ab):w=v:=by cases w<;>cases v<;>first|rfl|cases h
theorem aaU{w v:Bool}(h:J9 w v=ak):w= !v:=by cases w<;>cases v<;>first|rfl|cases h
theorem Qo{a:Array Oper}{j:Nat}{v:V}(h:vG a j s=aa v): ∃t,(a[j]?).bind (·.dst)=aa t/\s.t t=v:=by
 unfold vG at h
 grind
theorem Q2(p:C.Fits K){V:Array Oper}(h:tp C V o l s=aa (e,m,c))(a:cy m):jd K V o s (e.app s):=by
 unfold tp at h;split at h
 ·rename_i k;exact jd.of k (Q4 p h a)
 rename_i j z k;split at h
 ·rename_i i;obtain⟨t,q,r⟩:=Qo i;split at h
  ·rename_i x;cases h;rw[pv];exact jd.skip k q r (hY (p.nt▸x))
  cases h
 ·rename_i b i;obtain⟨t,q,r⟩:=Qo i;split at h
  ·rename_i w l;split at h
   ·rename_i hw;have hw:=acs hw;subst hw;split at h
    ·rename_i F A B y;cases h;obtain⟨rfl,n⟩:=a;exact jd.hL k q r (Q4 p y n)
    cases h
   rename_i hw;have hw:=aaU hw;subst hw;split at h
   ·rename_i x;cases h;obtain⟨rfl,_⟩:=a;rw[pv];exact jd.out k q r (hY (p.nt▸x))
   cases h
  cases h
 cases h
theorem aeR{V:Array Oper}{l:List Oper}{Q:S->Prop}(h:jd K V o s b)(k:ry K V l b Q):ry K V (o::l) s Q:=
 λβ a w c m n=>h β a w (wpList K.P V c l) c m λe p q i=>k e p q c i n
end
end Go.Lift
