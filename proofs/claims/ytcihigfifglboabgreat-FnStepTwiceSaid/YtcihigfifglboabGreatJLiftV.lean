/- Tools. -/
import Derived.Test.YtcihigfifglboabGreatJLiftTV
namespace Go.Lift
open Go
section
variable {P:Program} {cc:List (Nat×cj)} {H:Nat->Option E} {d:Option Tmp} {ty:TypeId} {pos:String} {af:Array Edge} {g:Option (Nat×Bool)}
variable {t:TypeId} {u:TypeDesc} {z:Value} {size bytes:Nat}
theorem A5(a:BinOp)(e:Om a=true)(x y:Operand)(t h:TypeId)(k:IntKind)(m n:Int):b9 P H ⟨d,.binOp a t x y h,ty,pos,af,g⟩ [.t (.int k m),.t (.int k n)] (.t (.int k (bits a k m n))):=by
 intro i w X l _ c;refine⟨Value.int k (bits a k m n),?_,.t _ _ (.int k _)⟩;cases a<;>simp[Om] at e<;>
  simp[execOp,dF c.1,dF c.2.1,eqGuard,binOp,intBits_and,intBits_or,intBits_xor,intBits_andNot]
theorem aal(x y:Operand)(t c:TypeId)(m n:List UInt8):b9 P H ⟨d,.binOp .lss t x y c,ty,pos,af,g⟩ [.t (.str m),.t (.str n)] (.t (.bool (Op.bytesLess m n))):=by intro e w X h _ a;refine⟨.bool (Op.bytesLess m n),?_,.t _ _ (.bool _)⟩;simp[execOp,hn a.1,hn a.2.1,eqGuard,binOp,Op.stringOp]
theorem Z'(x y:Operand)(t c:TypeId)(m n:List UInt8):b9 P H ⟨d,.binOp .gtr t x y c,ty,pos,af,g⟩ [.t (.str m),.t (.str n)] (.t (.bool (!Op.bytesLess m n&& !m==n))):=by intro e w X h _ a;refine⟨.bool (!Op.bytesLess m n&& !m==n),?_,.t _ _ (.bool _)⟩;simp[execOp,hn a.1,hn a.2.1,eqGuard,binOp,Op.stringOp]
theorem aam(x y:Operand)(t c:TypeId)(m n:List UInt8):b9 P H ⟨d,.binOp .leq t x y c,ty,pos,af,g⟩ [.t (.str m),.t (.str n)] (.t (.bool (Op.bytesLess m n||m==n))):=by intro e w X h _ a;refine⟨.bool (Op.bytesLess m n||m==n),?_,.t _ _ (.bool _)⟩;simp[execOp,hn a.1,hn a.2.1,eqGuard,binOp,Op.stringOp]
theorem abE(x:Operand)(t:TypeId)(k:IntKind)(n:Int):b9 P H ⟨d,.unOp .neg t x,ty,pos,af,g⟩ [.t (.int k n)] (.t (.int k (k.wrap (0-n)))):=by intro c w X e _ a;refine⟨.int k (k.wrap (0-n)),?_,.t _ _ (.int _ _)⟩;simp[execOp,dF a.1,Op.unary,Op.intArith]
theorem Ue(x:Operand)(f:FuncId)(a:List V):b9 P H ⟨d,.nilCheck x,ty,pos,af,g⟩ [.fn f a] (.fn f a):=by intro h w X c _ i;have e:bn h w X (.fn f a) (c x):=i.1;refine⟨c x,?_,e⟩;generalize k:c x=y at e;cases e with|fn=>simp[execOp,k]
variable {a v b:V}{x y:Operand}{i:BinOp}{k:TypeId}{m e r:List dh}{n l c p q U:List cr}{D:Map}{w:World}{X:Nat->Prop}
theorem Yz{a:BinOp}{t i:TypeId}{k:IntKind}{m n:Int}(h:GV a k m n l=some (v,e,c))(o:cf e):
  b9 P H ⟨d,.binOp a t x y i,ty,pos,af,g⟩ [.t (.int k m),.t (.int k n)] v:=by
 cases a<;>simp only[GV,OL,Option.some.injEq,Prod.mk.injEq,reduceCtorEq] at h<;>obtain⟨rfl,rfl,rfl⟩:=h
 ·exact abq _ _ _ _ _ _ _
 ·exact abz _ _ _ _ _ _ _
 ·exact abF _ _ _ _ _ _ _
 ·exact abB _ _ _ _ _ _ _ o.1
 ·exact abA _ _ _ _ _ _ _ o.1
 ·exact A5 .and rfl _ _ _ _ _ _ _
 ·exact A5 .or rfl _ _ _ _ _ _ _
 ·exact A5 .xor rfl _ _ _ _ _ _ _
 ·exact A5 .andNot rfl _ _ _ _ _ _ _
 ·exact abo _ _ _ _ _ _ _
 ·exact abD _ _ _ _ _ _ _
 ·exact abI _ _ _ _ _ _ _
 ·exact abJ _ _ _ _ _ _ _
 ·exact abK _ _ _ _ _ _ _
 exact abn _ _ _ _ _ _ _
theorem Yu{a:BinOp}{t:TypeId}{m n:List UInt8}(h:GP a m n l=some (v,e,c))(i:cf e):
  b9 P H ⟨d,.binOp a t x y k,ty,pos,af,g⟩ [.t (.str m),.t (.str n)] v:=by
 unfold GP at h;split at h<;>cases h
 ·obtain⟨o,rfl⟩:=Zh i.1;exact abp _ _ _ _ _ _ o
 ·exact aab _ _ _ _ _ _
 ·exact aak _ _ _ _ _ _
 ·exact aaa _ _ _ _ _ _
 ·exact aal _ _ _ _ _ _
 ·exact Z' _ _ _ _ _ _
 exact aam _ _ _ _ _ _
theorem LI(a:dU P cc)(h:Gn (dz cc t)=true):P.underlying t=some .bool:=by
 unfold Gn at h;split at h
 ·rename_i i c;split at h
  ·rename_i e;exact(a _ _ c).iw.1 e
  cases h
 cases h
theorem E6(a:dU P cc)(h:wV (dz cc t)=true):P.underlying t=some .string:=by
 unfold wV at h;split at h
 ·rename_i i c;split at h
  ·rename_i e;exact(a _ _ c).iw.2.2.1 e
  cases h
 cases h
theorem z1(a:dU P cc)(h:w7 (dz cc t)=true): ∃e,P.underlying t=some (.slice e):=by
 unfold w7 at h;split at h
 ·rename_i i c;split at h
  ·rename_i e k;exact⟨e,(a _ _ c).iw.2.2.2 e k⟩
  cases h
 cases h
theorem vS{u:Value}(h:bn D w X (.t .gA) u):u= .nilIface:=by cases h with|t _ _ h=>cases h with|gA=>rfl
theorem NV{u:Value}(h:bn D w X (.t .err) u): ∃t v,u= .iface t v:=by cases h with|t _ _ h=>cases h with|err t v=>exact⟨t,v,rfl⟩
theorem Si(w:World)(n:Nat){ms}(a:TypeId)(b:Value)(c:P.underlying t=some (.interface ms)):(Op.equalIn (n+1) t (.iface a b) .nilIface).run P w= .ok false w:=by simp[Op.equalIn,run_underlying c]
theorem RX(w:World)(n:Nat){ms}(a:P.underlying t=some (.interface ms)):(Op.equalIn (n+1) t .nilIface .nilIface).run P w= .ok true w:=by simp[Op.equalIn,run_underlying a]
theorem LU(w:World){ms}(a:TypeId)(b:Value)(c:P.underlying t=some (.interface ms)):(Op.equal t (.iface a b) .nilIface).run P w= .ok false w:=Si w 9999 a b c
theorem K8(w:World){ms}(a:P.underlying t=some (.interface ms)):(Op.equal t .nilIface .nilIface).run P w= .ok true w:=RX w 9999 a
theorem Wd(a b):binOp .eql t (.iface a b) .nilIface=(do pure (.bool (<-Op.equal t (.iface a b) .nilIface))):=rfl
theorem Wc(a b):binOp .neq t (.iface a b) .nilIface=(do pure (.bool (!(<-Op.equal t (.iface a b) .nilIface)))):=rfl
theorem Wb:binOp .eql t .nilIface .nilIface=(do pure (.bool (<-Op.equal t .nilIface .nilIface))):=rfl
theorem Wa:binOp .neq t .nilIface .nilIface=(do pure (.bool (!(<-Op.equal t .nilIface .nilIface)))):=rfl
theorem LV(w:World)(o:BinOp)(x y:Operand)(a:(po x||po y)=true):(eqGuard o t x y .nilIface .nilIface).run P w= .ok () w:=by cases x<;>cases y<;>simp[po] at a<;>simp[eqGuard]<;>split<;>simp
theorem aag(x y:Operand)(e:TypeId){ms}(h:P.underlying t=some (.interface ms)):b9 P H ⟨d,.binOp .eql t x y e,ty,pos,af,g⟩ [.t .err,.t .gA] (.t (.bool false)):=by intro k w X l _ c;obtain⟨a,b,i⟩:=NV c.1;refine⟨.bool false,?_,.t _ _ (.bool _)⟩;simp[execOp,i,vS c.2.1,eqGuard,Wd,LU w a b h]
theorem aaf(x y:Operand)(e:TypeId){ms}(h:P.underlying t=some (.interface ms)):b9 P H ⟨d,.binOp .neq t x y e,ty,pos,af,g⟩ [.t .err,.t .gA] (.t (.bool true)):=by intro k w X l _ c;obtain⟨a,b,i⟩:=NV c.1;refine⟨.bool true,?_,.t _ _ (.bool _)⟩;simp[execOp,i,vS c.2.1,eqGuard,Wc,LU w a b h]
theorem aad(x y:Operand)(c:TypeId){ms}(e:P.underlying t=some (.interface ms))(h:(po x||po y)=true):b9 P H ⟨d,.binOp .eql t x y c,ty,pos,af,g⟩ [.t .gA,.t .gA] (.t (.bool true)):=by intro i w X k _ a;refine⟨.bool true,?_,.t _ _ (.bool _)⟩;simp[execOp,vS a.1,vS a.2.1,LV w _ x y h,Wb,K8 w e]
theorem aac(x y:Operand)(c:TypeId){ms}(e:P.underlying t=some (.interface ms))(h:(po x||po y)=true):b9 P H ⟨d,.binOp .neq t x y c,ty,pos,af,g⟩ [.t .gA,.t .gA] (.t (.bool false)):=by intro i w X k _ a;refine⟨.bool false,?_,.t _ _ (.bool _)⟩;simp[execOp,vS a.1,vS a.2.1,LV w _ x y h,Wa,K8 w e]
theorem z6{a:List (Nat×cj)}(e:dU P a)(h:GX (dz a t)=true): ∃ms,P.underlying t=some (.interface ms):=by
 unfold GX at h;split at h
 ·rename_i i k;split at h
  ·rename_i l;obtain⟨u,n,c⟩:=e _ _ k;simp only[cj.is,l] at c;obtain⟨m,rfl⟩:=c;exact⟨m,n.1⟩
  cases h
 cases h
theorem YA{e:List (Nat×cj)}(q:dU P e)(h:GJ e i t x y a b l=some (v,m,c)):
  b9 P H ⟨d,.binOp i t x y k,ty,pos,af,g⟩ [a,b] v:=by
 unfold GJ at h;split at h
 ·rename_i n p;obtain⟨ms,o⟩:=z6 q n;cases h;exact aag _ _ _ o
 ·rename_i n p;obtain⟨ms,o⟩:=z6 q n;cases h;exact aaf _ _ _ o
 ·rename_i n p;obtain⟨ms,o⟩:=z6 q n;cases h;exact aad _ _ _ o p
 ·rename_i n p;obtain⟨ms,o⟩:=z6 q n;cases h;exact aac _ _ _ o p
 cases h
theorem SE(w:World)(n:Nat){e}(a:Addr)(l c:Nat)(h:P.underlying t=some (.slice e)):(Op.equalIn (n+1) t (.slice (some a) l c) (.slice none 0 0)).run P w= .ok false w:=by simp[Op.equalIn,run_underlying h]
theorem Ze(w:World){e}(a:Addr)(l c:Nat)(h:P.underlying t=some (.slice e)):(Op.equal t (.slice (some a) l c) (.slice none 0 0)).run P w= .ok false w:=SE w 9999 a l c h
theorem Zj(a:Addr)(l c:Nat):binOp .eql t (.slice (some a) l c) (.slice none 0 0)=(do pure (.bool (<-Op.equal t (.slice (some a) l c) (.slice none 0 0)))):=rfl
theorem Y5(x y:Operand)(n:TypeId)(i:List (List T)){e}(o:P.underlying t=some (.slice e))(p:i≠[]):b9 P H ⟨d,.binOp .eql t x y n,ty,pos,af,g⟩ [.t (.aD i),.t .fo] (.t (.bool false)):=by
 intro C w X k _ m;obtain⟨a,l,c,q⟩: ∃a l c,k x= .slice (some a) l c:=by
  cases m.1 with|t _ _ h=>
  generalize r:k x=u at h;cases h with
  |fY=>exact bB rfl p
  |aD _ b s size A f=>exact⟨_,_,_,rfl⟩
 have B:k y= .slice none 0 0:=by
  cases m.2.1 with|t _ _ h=>
  generalize r:k y=u at h;cases h;rfl
 refine⟨.bool false,?_,.t _ _ (.bool _)⟩;simp[execOp,q,B,eqGuard,Zj,Ze w a l c o]
theorem Yv{i:List (Nat×cj)}(p:dU P i){k:BinOp}{l:TypeId}(h:GQ i k t a b n=some (v,m,c))(o:cf m):
  b9 P H ⟨d,.binOp k t x y l,ty,pos,af,g⟩ [a,b] v:=by
 unfold GQ at h;split at h
 ·rename_i q;obtain⟨e,r⟩:=z1 p q;cases h;exact Y5 _ _ _ _ r o.1
 cases h
theorem Uh(x y:Operand)(e n c a k:Nat){u:TypeDesc}{z:Value}{i L:Nat}(m:P.underlying t=some (.array n e))(o:cd P e u z i L)(r:k<n):
  b9 P H ⟨d,.indexAddr t x y,ty,pos,af,g⟩ [.ref c a,.t (.int .i64 (k:Int))] (.ref c (a+k*i)):=by intro s w X A B l;have cJ:=dF l.2.1;obtain⟨b,p,q⟩:=rn l.1;refine⟨.pointer (some ⟨b,a+k*i,none⟩),?_,.ref _ _ _ p⟩;simp[execOp,q,cJ,Instr.indexAt,asIntOf,run_underlying m,o.run_sizeOf,jh,Instr.sureAddr];intro h;omega
theorem Zc(A:dU P cc){t:TypeId}(h:GZ P cc i t a b c=some (v,e,l))(m:cf e):
  b9 P H ⟨d,.binOp i t x y k,ty,pos,af,g⟩ [a,b] v:=by
 unfold GZ at h;split at h
 ·split at h
  ·rename_i B;subst B;exact Yz h m
  cases h
 ·exact Yu h m
 ·split at h
  ·rename_i n;cases h;exact aai _ _ _ _ _ (LI A n)
  ·rename_i n;cases h;exact aah _ _ _ _ _ (LI A n)
  cases h
 ·split at h
  ·rename_i ms o b c p q;cases h;obtain⟨r,s,w,_⟩:=m;rw[yU p,yU q,<-w];exact Yb _ _ _ _ ms o r aV (by simp[s])
  ·rename_i ms o b c p q;cases h;obtain⟨r,s,w,_⟩:=m;rw[yU p,yU q,<-w];exact X' _ _ _ _ ms o r aV (by simp[s])
  cases h
 cases h
theorem aan{e:UnOp}(h:G5 e a l=some (v,m,c)):
  b9 P H ⟨d,.unOp e t x,ty,pos,af,g⟩ [a] v:=by
 unfold G5 at h;split at h<;>cases h
 ·exact abC _ _ _
 exact abE _ _ _ _
theorem UF(k:dU P cc){i:cj}(l:dz cc t=some i)(h:Fy cc (some i)=true): ∃e,P.underlying t=some (.slice e)/\P.underlying e=some (.int .u8):=by
 unfold Fy at h;split at h
 ·rename_i o a;cases a;split at h
  ·rename_i e m;split at h
   ·rename_i j n;split at h
    ·rename_i c;exact⟨e,(k _ _ l).iw.2.2.2 e m,(k _ _ n).iw.2.1 _ c⟩
    cases h
   cases h
  cases h
 cases h
theorem Xd(y:dU P cc){c o:TypeId}(h:Gg cc c o a p=some (v,r,q))(s:cf r):
  b9 P H ⟨d,.convert c o x,ty,pos,af,g⟩ [a] v:=by
 unfold Gg at h;split at h
 ·rename_i i j D F;split at h
  ·rename_i I k n m p A;cases h;obtain⟨G,w,_⟩:=y _ _ D;have B:I.wrap n=m:=s.1;rw[<-B];exact N8 _ _ _ _ _ G _ w.1 ((y _ _ F).iw.2.1 _ A)
  ·rename_i k n m p A;cases h;have B:UInt8.ofInt n=m:=s.1;rw[<-B];obtain⟨G,w,_⟩:=y _ _ D
   have:=N8 (P:=P) (H:=H) (d:=d) (ty:=ty) (pos:=pos) (af:=af) (g:=g) x c o k .u8 G n w.1 ((y _ _ F).iw.2.1 _ A);rw[Nl] at this;exact this
  ·rename_i C l p A;split at h
   ·rename_i K;cases h;have B:C=l.map nB:=s.1;obtain⟨e,L,Q⟩:=UF y D K;rw[B];exact Uj _ _ _ _ _ L Q ((y _ _ F).iw.2.2.1 A)
   cases h
  cases h
 cases h
theorem TX(x:Operand)(r gen i a:Nat)(s:TypeId)(sz:Nat)(k:List (List T))(e:List T)(K:cd P t u z size bytes)(L:kt u=true)(D:H r=some (.arr s gen sz k))(o:k[i]? =some e)(S:a+size<=e.length):
  b9 P H ⟨d,.load t x,ty,pos,af,g⟩ [.cC r gen sz i a] (.agg (((e.drop a).take size).map .t)):=by
 intro V w X ρ F Q;obtain⟨q,G⟩:=jq (F r _ D);obtain⟨b,y,R⟩:=oB Q.1 G;subst y;have a':=G;rcases(F r _ D).2 with ⟨A,B⟩|⟨gm,C,A,B,h3,U,W⟩
 ·rw[B] at o;simp at o
 rw[a'] at A;cases A;have Y:i<k.length:=(bR.1 o).1;have f:e.length=sz:=U e (bE o);have p: ∀j,j<size->i*sz+a+j<C.size:=by
  intro j n
  have:(i+1)*sz<=k.length*sz:=dA _ Y;rw[dp] at this;omega
 have l: ∀j,j<size->w.cell? ⟨b,i*sz+a+j,none⟩=some (C.getD (i*sz+a+j) undef):=λj n=>by
  have:=p j n;simp[World.cell?,B,this]
 refine⟨_,by simp[execOp,R,Instr.loadAt,Instr.sureAddr,K.CS w L l];rfl,?_⟩;refine .agg _ _ bQ λj c v h I=>?_;have n:j<size:=by
  have:=(bR.1 h).1;simp at this;omega
 rw[ey,De n,fZ] at h;simp only[List.getElem?_toArray,List.getElem?_map,List.getElem?_range n,Option.map_some,Option.some.injEq] at I;cases m:e[a+j]? with
 |none=>rw[m] at h;simp at h
 |some M=>
  rw[m] at h;simp at h;rw[<-h]
  have:=p j n;have N:=W i (a+j) e M C[i*sz+a+j] o m (by rw[<-pP];simp[this]);rw[<-I];simp only[Array.getElem?_eq_getElem this,Option.getD_some];exact .t _ _ N
theorem LS(G:dU P cc)(h:tA cc H t a l=some (v,e,n))(w:cf e):
  b9 P H ⟨d,.load t x,ty,pos,af,g⟩ [a] v:=by
 unfold tA at h;split at h
 ·cases h
 rename_i i I;obtain⟨K,q,m⟩:=(G _ _ I).agg;split at h
 ·rename_i id B;split at h
  ·rename_i cs s;split at h
   ·rename_i o;split at h
    ·rename_i p;cases h;exact Y6 _ _ _ _ q (m.trans o) s p
    cases h
   rename_i o;split at h
   ·rename_i c C;cases h;exact Y7 _ _ _ _ _ q (m.trans o) s C
   cases h
  cases h
 ·rename_i cs;split at h
  ·rename_i o;split at h
   ·rename_i p;cases h;exact UU _ _ q (m.trans o) (ea p)
   cases h
  rename_i o;split at h
  ·cases h;exact UW _ _ _ q (m.trans o)
  cases h
 ·rename_i id gen L k B;split at h
  ·rename_i y D A r l s o;split at h
   ·rename_i c C;cases h;obtain⟨rfl,rfl,F,_⟩:=w;exact TY _ _ _ _ _ _ _ _ _ _ q (m.trans o) s F C
   cases h
  ·rename_i y D A r l s o;split at h
   ·rename_i p;cases h;obtain⟨rfl,rfl,F,_⟩:=w;exact TX _ _ _ _ _ _ _ _ _ q (m.trans o) s F (ea p)
   cases h
  cases h
 cases h
theorem KI{j:Nat}: ∀{c:List (Nat×Nat×V)},rK j c=none-> ∀i v,(i,j,v)∉c
 | [],_,_,_,h=>by cases h
 |h::c,a,i,v,hm=>by
  simp only[rK] at a;cases e:Nat.beq h.2.1 j with
  |true=>rw[e] at a;cases a
  |false=>
   rw[e] at a;rcases dP.1 hm with rfl|hm
   ·simp at e
   exact KI a i v hm
theorem Ex{j:Nat}{x:Nat×V}: ∀{c:List (Nat×Nat×V)},rK j c=some x->(x.1,j,x.2)∈c
 |h::c,a=>by
  simp only[rK] at a;cases e:Nat.beq h.2.1 j with
  |true=>
   rw[e] at a;cases a
   have:=cN e;subst this;exact eX
  |false=>rw[e] at a;exact eA _ (Ex a)
theorem yY{U:List (Nat×Nat×V)}{k:Nat}: ∀{n j:Nat} {l:List (Nat×V)},rF U j n=some l->cf (rM k l)->l.length=n/\ ∀i v,(l.map (·.2))[i]? =some v->(k,j+i,v)∈U
 |0,_,_,h,_=>by cases h;exact⟨rfl,λi v h=>by simp at h⟩
 |n+1,j,l,h,a=>by
  simp only[rF] at h;split at h
  ·rename_i x p m o;cases h;simp only[rM] at a;obtain⟨e,a⟩:=a;obtain⟨aJ,a2⟩:=yY o a;refine⟨by simp[aJ],λi v c=>?_⟩;cases i with
   |zero=>
    simp at c;subst c
    have:=Ex m;rw[e] at this;exact this
   |succ i=>
    have:=a2 i v (by simpa using c)
    rwa [show j+1+i=j+(i+1) by omega] at this
  cases h
theorem VO(R:dU P cc){Q:List cr}{f:List dh}(h:F3 cc H t a Q=some (v,f,U))(o:cf f):
  b9 P H ⟨d,.load t x,ty,pos,af,g⟩ [a] v:=by
 unfold F3 at h;split at h
 ·rename_i i id gen M k I r Q K;obtain⟨N,y,n⟩:=(R _ _ K).agg;split at h
  ·rename_i A m B e L C;split at h
   ·rename_i w;split at h
    ·rename_i c D F;split at h
     ·rename_i W;cases h;obtain⟨rfl,p,s,_⟩:=o;exact Dg _ _ _ _ _ A m _ e L r c _ y (n.trans w) C p s D (.inr ⟨λv=>KI F _ _,W,rfl⟩)
     cases h
    ·rename_i c S T D F;cases h;obtain⟨rfl,p,s,rfl,_⟩:=o;exact Dg _ _ _ _ _ A m _ e _ r c _ y (n.trans w) C p s D (.inl (Ex F))
    cases h
   rename_i w;split at h
   ·rename_i l X F;cases h;obtain⟨rfl,p,s,G⟩:=o;obtain⟨Y,b⟩:=yY F G;exact JU _ _ _ _ _ A m _ e L r _ y (n.trans w) C p s (ea X) (by simp[Y]) b
   cases h
  cases h
 ·rename_i i id gen M k I q r Q K;obtain⟨N,y,n⟩:=(R _ _ K).agg;split at h
  ·rename_i A m B e L C;split at h
   ·rename_i c S cW T w D G;cases h;obtain⟨rfl,p,s,rfl,rfl,_⟩:=o;exact Dg _ _ _ _ _ A m _ e _ r c _ y (n.trans w) C p s D (.inl (bE G))
   ·rename_i w;split at h
    ·rename_i l X F;cases h;obtain⟨rfl,p,s,G⟩:=o;obtain⟨Y,b⟩:=yY F G;exact JU _ _ _ _ _ A m _ e L r _ y (n.trans w) C p s (ea X) (by simp[Y]) λj v bJ=>eY (b j v bJ)
    cases h
   cases h
  cases h
 ·rename_i i id gen M k I q r Q K;obtain⟨N,y,n⟩:=(R _ _ K).agg;split at h
  ·rename_i A m B e L C;split at h
   ·rename_i c w D W;cases h;obtain⟨rfl,p,s,G⟩:=o;exact Dg _ _ _ _ _ A m _ e _ r c _ y (n.trans w) C p s D (.inr ⟨wE G,W,rfl⟩)
   cases h
  cases h
 cases h
theorem VQ(C:dU P cc){k:Nat}(h:FM cc H t k a l=some (v,m,c))(r:cf m):
  b9 P H ⟨d,.fieldAddr t x k,ty,pos,af,g⟩ [a] v:=by
 unfold FM at h;split at h
 ·cases h
 rename_i i G;split at h
 ·rename_i Q I;obtain⟨s,y,A,_⟩:=(C _ _ G).st I;have w:P.underlying t=some (.struct s):=y.1;split at h
  ·cases h
  rename_i D n;rw[<-A,ey] at n;cases q:s[k]? with
  |none=>rw[pQ,q] at n;cases n
  |some K=>
  rw[pQ,q] at n;simp only[Option.map_some,Option.some.injEq] at n;subst n;split at h
  ·cases h
  rename_i j L;obtain⟨R,o,_⟩:=C _ _ L;split at h
  ·cases h
  rename_i F;have p:(j.size==0)=false:=by
   rw[beq_eq_false_iff_ne];intro e;rw[e] at F;cases F
  split at h
  ·cases h;exact Ui _ _ _ _ _ _ _ _ _ _ _ w q rfl o p
  ·cases h;exact UZ _ _ _ _ _ _ _ _ _ _ w q rfl o p
  ·split at h
   ·rename_i B;cases h;obtain⟨rfl,rfl,_⟩:=r;exact T0 _ _ _ _ _ _ _ _ _ _ _ _ _ _ w q rfl o p _ _ B
   ·rename_i B;cases h;obtain⟨rfl,_⟩:=r;exact T1 _ _ _ _ _ _ _ _ _ _ _ _ _ _ w q rfl o p _ B rfl
   cases h
  cases h
 cases h
theorem Yo(y:dU P cc){k:Nat}(h:GL cc t k a l=some (v,e,c)):
  b9 P H ⟨d,.field t x k,ty,pos,af,g⟩ [a] v:=by
 unfold GL at h;split at h
 ·cases h
 rename_i i B;split at h
 ·rename_i K C;obtain⟨r,n,s,_⟩:=(y _ _ B).st C;split at h
  ·cases h
  rename_i A m;rw[<-s,ey] at m;cases q:r[k]? with
  |none=>rw[pQ,q] at m;cases m
  |some D=>
  rw[pQ,q] at m;simp only[Option.map_some,Option.some.injEq] at m;subst m;split at h
  ·cases h
  rename_i j F;obtain⟨L,o,p⟩:=(y _ _ F).agg;split at h
  ·split at h
   ·rename_i w;split at h
    ·rename_i G;cases h;exact Mj _ _ _ _ _ _ n q o (.inl ⟨p.trans w,G,rfl⟩)
    cases h
   rename_i w;split at h
   ·rename_i I;cases h;exact Mj _ _ _ _ _ _ n q o (.inr ⟨p.trans w,I⟩)
   cases h
  cases h
 cases h
theorem je{n:Int}(h:0<=n):n=((n.toNat:Nat):Int):=O
theorem Ym(I:dU P cc){o:List dh}(h:GK cc H t a b c=some (v,o,l))(q:cf o):
  b9 P H ⟨d,.indexAddr t x y,ty,pos,af,g⟩ [a,b] v:=by
 unfold GK at h;split at h
 ·cases h
 rename_i i X;split at h
 ·rename_i e K;have B:P.underlying t=some (.slice e):=(I _ _ X).iw.2.2.2 e K;split at h
  ·cases h
  rename_i j L;obtain⟨Y,C,_⟩:=I _ _ L;split at h
  ·rename_i p n;split at h
   ·rename_i r c;split at h
    ·rename_i w;cases h;obtain⟨D,Q⟩:=mG (show au p n=some r from q.1);rw[je D];exact UY _ _ _ _ _ _ B C Q (cN w)
    cases h
   cases h
  ·rename_i id gen size A len n;split at h
   ·rename_i s f p R w;cases h;obtain⟨rfl,rfl,⟨D,Q⟩,_⟩:=q;have U:n.toNat<len:=O
    have:=cN w;subst this;have F:=Ug (P:=P) (H:=H) (d:=d) (ty:=ty) (pos:=pos) (af:=af) (g:=g) x y e id s A len n.toNat _ _ R B C U;rw[<-je D] at F;exact F
   ·rename_i m s p M R w;cases h;obtain⟨rfl,⟨D,Q⟩,_⟩:=q;have U:n.toNat<len:=O
    have:=cN w;subst this;have F:=TZ (P:=P) (H:=H) (d:=d) (ty:=ty) (pos:=pos) (af:=af) (g:=g) x y e id _ A len n.toNat _ R rfl B C U;rw[<-je D] at F;exact F
   cases h
  cases h
 ·rename_i m e K;obtain⟨N,W,G⟩:=I _ _ X;have B:P.underlying t=some (.array m e):=by
   simp only[cj.is,K] at G;rw[<-G];exact W.1
  split at h
  ·cases h
  rename_i j L;obtain⟨Y,C,_⟩:=I _ _ L;split at h
  ·rename_i id A n k c;split at h
   ·rename_i w;cases h;rw[show n=(k:Int) from q.1];exact Uh _ _ _ _ _ _ _ B C (ea w)
   cases h
  cases h
 cases h
theorem VP(k:dU P cc)(h:F4 cc t a b q=some (v,e,p))(i:cf e):
  b9 P H ⟨d,.index t x y,ty,pos,af,g⟩ [a,b] v:=by
 unfold F4 at h;split at h
 ·rename_i l n c q m;cases h;obtain⟨o,r⟩:=mG (show au l n=some c from i.1);rw[je o];exact X9 _ _ _ _ _ (E6 k m) r
 cases h
theorem Yy(o:dU P cc)(h:GU cc H t a l=some (v,m,c))(i:cf m):
  b9 P H ⟨d,.call {callee:= .builtin .len,args:= #[x],argTypes:= #[t]},ty,pos,af,g⟩ [a] v:=by
 unfold GU at h;split at h
 ·split at h
  ·rename_i k;cases h;exact WL _ _ (E6 o k)
  cases h
 ·split at h
  ·rename_i k;cases h;obtain⟨e,n⟩:=z1 o k;have q:=i.1;rw[<-q];exact Ya _ _ _ n
  cases h
 ·split at h
  ·rename_i p k;cases h;obtain⟨rfl,rfl,rfl,_⟩:=i;obtain⟨e,n⟩:=z1 o k;exact WM _ _ _ _ _ _ _ n _ _ p
  ·rename_i p k;cases h;obtain⟨rfl,rfl,_⟩:=i;obtain⟨e,n⟩:=z1 o k;exact UX _ _ _ _ _ _ _ n _ p rfl
  cases h
 cases h
theorem VN(G:dU P cc){y A:Option Operand}{B:List V}{N:List cr}{ma:List dh}(h:F2 cc H t y A B U=some (v,ma,N))(n:cf ma):
  b9 P H ⟨d,.slice t x y A none,ty,pos,af,g⟩ B v:=by
 unfold F2 at h;split at h
 ·rename_i l Y;split at h
  ·rename_i a b r U S c;cases h;obtain⟨k,T,f,rfl⟩:=zQ n.1;have p:=E6 G S;unfold rR at c;split at c
   ·cases c;rw[je k,je (O:0<=b)];exact Uc _ _ _ _ _ _ p O O
   ·cases c
    have:=R6 (P:=P) (H:=H) (d:=d) (ty:=ty) (pos:=pos) (af:=af) (g:=g) x ‹_› l a.toNat p O;rw[<-je k] at this;simpa using this
   ·cases c
    have:=Sp (P:=P) (H:=H) (d:=d) (ty:=ty) (pos:=pos) (af:=af) (g:=g) x ‹_› l b.toNat p O;rw[<-je (O:0<=b)] at this;simpa using this
   cases c
  cases h
 ·rename_i C Y;split at h
  ·cases h
  rename_i i I;split at h
  ·rename_i e hu;have p:P.underlying t=some (.slice e):=(G _ _ I).iw.2.2.2 e hu;split at h
   ·rename_i j a b r U K c;cases h;obtain⟨W,D,_⟩:=n;obtain⟨k,T,f,rfl⟩:=zQ W;obtain⟨qJ,s,_⟩:=G _ _ K;unfold rR at c;split at c
    ·cases c;rw[je k,je (O:0<=b)];exact U9 _ _ _ _ _ _ _ p s O O D
    ·cases c
     have:=Se (P:=P) (H:=H) (d:=d) (ty:=ty) (pos:=pos) (af:=af) (g:=g) x ‹_› e C a.toNat p s O D;rw[<-je k] at this;simpa using this
    ·cases c
     have:=SG (P:=P) (H:=H) (d:=d) (ty:=ty) (pos:=pos) (af:=af) (g:=g) x ‹_› e C b.toNat p s O D;rw[<-je (O:0<=b)] at this;simpa using this
    cases c
   cases h
  cases h
 ·rename_i id ahE sz L q Y;split at h
  ·rename_i i lM I M;split at h
   ·rename_i e hu;have p:P.underlying t=some (.slice e):=(G _ _ I).iw.2.2.2 e hu;obtain⟨Hc,hH,M⟩:=Option.bind_eq_some_iff.1 M;have Q: ∀{a b:Int},rR y A q Y=some (a,b)->0<=a->0<=b-> ∀β w X (F:Operand->Value),dw β w X Y (y.toList.map F++A.toList.map F)->qe q y A F a.toNat b.toNat:=by
     intro a b c W k β w X F D;unfold rR at c;split at c
     ·cases c;refine⟨?_,?_⟩
      ·show F _=_;rw[yJ W];exact dF D.1
      show F _=_;rw[yJ k];exact dF D.2.1
     ·cases c;refine⟨?_,by show _=_;simp⟩;show F _=_;rw[yJ W];exact dF D.1
     ·cases c;refine⟨by show _=_;simp,?_⟩;show F _=_;rw[yJ k];exact dF D.1
     cases c
    split at h
    ·rename_i j a b o m U K c;cases h;obtain⟨rfl,rfl,⟨k,T,f,h4,rfl,rfl⟩,_⟩:=n;obtain⟨qJ,s,_⟩:=G _ _ K;exact aaj x y A e id _ L q a.toNat b.toNat Hc hH M p s O O O (Q c k O)
    ·rename_i j a b U K c;cases h;obtain⟨rfl,⟨k,rfl,f⟩,_⟩:=n;obtain⟨qJ,s,_⟩:=G _ _ K;exact Y4 x y A e id _ _ L q a.toNat Hc hH M p s O (Q c k k)
    ·rename_i j a b o m U K c;split at h
     ·rename_i R;cases h;obtain⟨rfl,rfl,rfl,⟨W,k,T,f,rfl,rfl⟩,_⟩:=n;obtain⟨qJ,s,_⟩:=G _ _ K;exact Y3 x y A e _ id _ L q a.toNat b.toNat _ R p s W O O (Q c k O)
     cases h
    cases h
   cases h
  cases h
 cases h
theorem UA(B:dU P cc){m n:Operand}{k:List V}(h:Fu cc H t k p=some (v,r,l))(o:cf r):
  b9 P H ⟨d,.slice t x (some y) (some m) (some n),ty,pos,af,g⟩ k v:=by
 unfold Fu at h;split at h
 ·rename_i id Q R q s a b c;split at h
  ·rename_i i U w A;split at h
   ·rename_i e C;have D:P.underlying t=some (.slice e):=(B _ _ w).iw.2.2.2 e C;obtain⟨F,G,A⟩:=Option.bind_eq_some_iff.1 A;split at h
    ·rename_i j I;cases h;obtain⟨rfl,⟨K,W,X,Y⟩,_⟩:=o;obtain⟨f,L,_⟩:=B _ _ I;rw[je K,je (O:0<=b),je (O:0<=c)];exact X8 x y m n e id _ _ q s a.toNat b.toNat c.toNat F G A D L O O O
    cases h
   cases h
  cases h
 cases h
theorem Xe(o:dU P cc){m:Operand}{a:List V}(h:Gh cc t a l=some (v,r,c))(k:cf r):
  b9 P H ⟨d,.slice t x none (some y) (some m),ty,pos,af,g⟩ a v:=by
 unfold Gh at h;split at h
 ·split at h
  ·rename_i i n;split at h
   ·rename_i e p;have q:P.underlying t=some (.slice e):=(o _ _ n).iw.2.2.2 e p;split at h
    ·rename_i j s;cases h;obtain⟨⟨w,rfl⟩,A,_⟩:=k;obtain⟨F,B,C,rfl⟩:=zQ w;obtain⟨G,D,_⟩:=o _ _ s
     have:=TL (P:=P) (H:=H) (d:=d) (ty:=ty) (pos:=pos) (af:=af) (g:=g) x y m e _ _ q D (Int.toNat_le.2 C) A;rw[<-je B] at this;simpa using this
    cases h
   cases h
  cases h
 cases h
theorem TN(o:dU P cc){b:Builtin}{c:List TypeId}{e:List Operand}{a:List V}(h:EN cc H b c e a n=some (v,m,l))(i:cf m):
  b9 P H ⟨d,.call {callee:= .builtin b,args:=e.toArray,argTypes:=c.toArray},ty,pos,af,g⟩ a v:=by
 unfold EN at h;split at h
 ·exact Yy o h i
 ·split at h
  ·rename_i k;subst k;cases h;exact abH _ _ _ _ _ _
  cases h
 ·split at h
  ·rename_i k;subst k;cases h;exact abG _ _ _ _ _ _
  cases h
 cases h
theorem Yw(h:GR H a l=some (v,e,c))(i:cf e):b9 P H ⟨d,.nilCheck x,ty,pos,af,g⟩ [a] v:=by
 unfold GR at h;split at h
 ·split at h
  ·rename_i o k;cases h;obtain⟨rfl,_⟩:=i;obtain⟨m,n,k⟩:=Option.bind_eq_some_iff.1 k;exact Uf _ _ _ _ _ _ m n k
  cases h
 ·cases h;exact KD _ _ rfl
 ·cases h;exact KD _ _ rfl
 ·cases h;exact Ue _ _ _
 cases h
theorem VA(p:dU P cc){c:Array (Nat×Operand)}{a:List V}(h:FO cc t (c.toList.map (·.1)) a n=some (v,e,l)):
  b9 P H ⟨d,.build t c,ty,pos,af,g⟩ a v:=by
 unfold FO at h;split at h
 ·cases h
 rename_i i q;split at h
 ·rename_i y r;split at h
  ·rename_i cs s w x;cases h;obtain⟨k,m,_,o⟩:=(p _ _ q).st r;exact Y8 c k i.places a cs m o s (by simpa using w) x
  cases h
 cases h
theorem aaX(k:dU P cc){e:Op}{a:List V}(h:xp P cc H e a n=some (v,m,l))(i:cf m):
  b9 P H ⟨d,e,ty,pos,af,g⟩ a v:=by
 unfold xp at h;split at h
 ·split at h
  ·cases h;exact aae _ _
  cases h
 ·split at h
  ·cases h;exact Yc _ _
  cases h
 ·split at h
  ·rename_i b v w c n;cases h;obtain⟨s,_⟩:=i;subst s;cases b
   ·exact TM _ _ _ _ _
   exact Ud _ _ _ _ _
  cases h
 ·split at h
  ·split at h
   ·rename_i x;cases h;exact LS k x i
   exact VO k h i
  cases h
 ·split at h
  ·exact Yw h i
  cases h
 ·split at h
  ·split at h
   ·rename_i r p;cases h;exact Zc k p i
   split at h
   ·rename_i r p;cases h;exact YA k p
   exact Yv k h i
  cases h
 ·split at h
  ·exact aan h
  cases h
 ·split at h
  ·exact Xd k h i
  cases h
 ·rename_i C first q
  split at h
  ·rename_i f y;cases h
   have:first= #[]:=by simpa using y
   subst this;exact Va _ _ _
  cases h
 ·split at h
  ·exact VN k h i
  split at h
  ·exact UA k h i
  ·exact Xe k h i
  cases h
 ·split at h
  ·exact VQ k h i
  cases h
 ·split at h
  ·exact Yo k h
  cases h
 ·split at h
  ·exact Ym k h i
  cases h
 ·split at h
  ·exact VP k h i
  cases h
 ·split at h
  ·split at h
   ·rename_i A;cases h;exact WN _ _ _ _ A
   cases h
  cases h
 ·exact VA k h
 ·rename_i c;obtain⟨o,args,B⟩:=c;dsimp only at h;split at h
  ·have:=TN (d:=d) (ty:=ty) (pos:=pos) (af:=af) (g:=g) k h i;simpa using this
  cases h
 cases h
end
section
def kW(P:Program)(G:fe)(f:FuncId)(args:List V)(r:V):Prop:=ji P f/\Ek P G f args r
def jc(P:Program)(G:fe)(f:FuncId)(a:List E)(args:List V)(r:V)(c:List E):Prop:=
 ji P f/\JT P G f a args (ι:=Unit) (λ_=>True) (λ_=>r) λ_=>c
def fb(d:Option Tmp)(v:V):List (Nat×V):=match d with
 |some d=>[(d,v)]
 |none=>[]
def j4(a:Nat):Option Tmp->Bool
 |some d=>Nat.blt d a
 |none=>true
theorem gY{K:Ctx}{d:Option Tmp}(h:j4 K.nt d=true): ∀i,d=some i->Nat.blt i K.nt=true:=by intro i a;subst a;exact h
def iS:T->T
 | .fo=> .aD []
 |x=>x
variable {w:World}{X:Nat->Prop}{m:Nat}
theorem cX.x6{x:T}{v:Value}(h:cX w X x v):cX w X (iS x) v:=by
 cases h with
 |fo=>exact .fY _ _
 |bool b=>exact .bool b
 |int k n=>exact .int k n
 |str l=>exact .str l
 |fY a c=>exact .fY a c
 |aD e b m size c f p q i o r y=>exact .aD e b m size c f p q i o r y
 |hA=>exact .hA
 |gA=>exact .gA
 |nx=>exact .nx
 |err t v=>exact .err t v
theorem Zn{D:Map}{k:Nat}{c:TypeId}{gen n:Nat}{z:List T}(h:cH D w X k (.arr c gen n (List.replicate m z))):cH D w X k (.arr c gen n (List.replicate m (z.map iS))):=by
 refine⟨h.1,?_⟩;rcases h.2 with ⟨l,o⟩|⟨b,r,l,o,A,B,C⟩
 ·have:m=0:=by simpa using o
  subst this;exact .inl ⟨l,rfl⟩
 refine .inr ⟨b,r,l,o,by simpa using A,λp a=>?_,λi j p x u a e F=>?_⟩
 ·obtain⟨G,rfl⟩:=pT.1 a;rw[c5];exact B z (pT.2 ⟨G,rfl⟩)
 rw[td] at a;split at a
 ·cases a;rw[ey] at e;cases q:z[j]? with
  |none=>rw[q] at e;simp at e
  |some y=>
   rw[q] at e;simp at e;subst e;exact(C i j z y u (by rw[td,a1 ‹_›]) q F).x6
 cases a
def lz(a:Nat):Nat->List T->List (List T)
 |0,_=>[]
 |n+1,l=>l.take a::lz a n (l.drop a)
theorem zW(a:Nat): ∀(n:Nat) (l:List T),l.length=n*a->(lz a n l).length=n/\(∀c,c∈lz a n l->c.length=a)/\(lz a n l).flatten=l
 |0,l,h=>by
  have:l=[]:=by simpa using h
  subst this;exact⟨rfl,λ_ h=>by simp[lz] at h,rfl⟩
 |n+1,l,h=>by
  rw[dp] at h;obtain⟨e,i,k⟩:=zW a n (l.drop a) bQ;refine⟨by simp[lz,e],?_,by simp[lz,k]⟩;intro c b7;simp only[lz,List.mem_cons] at b7;rcases b7 with rfl|b7
  ·simp;omega
  exact i c b7
structure dM where
 P:Program
 G:fe
 cc:List (Nat×cj)
 nt:Nat
 c':Nat
 gU:Map
def tS(a:Nat):List Nat->Nat->Option Nat
 | [],_=>none
 |x::r,k=>bif Nat.beq x a then some k else tS a r (k+1)
theorem z8{i:Nat}: ∀{L:List Nat} {k m:Nat},tS i L k=some m->k<=m/\L[m-k]? =some i
 | [],_,_,h=>by cases h
 |x::r,k,m,h=>by
  simp only[tS] at h;cases a:Nat.beq x i with
  |true=>rw[a] at h;cases h;rw[cN a];exact⟨cQ _,aV⟩
  |false=>
   rw[a] at h;obtain⟨e,c⟩:=z8 (L:=r) (k:=k+1) h;refine⟨O,?_⟩;rw[show m-k=(m-(k+1))+1 by omega];simpa using c
mutual
def s9(L:List Nat):V->Option V
 | .ref id a=>match tS id L 0 with
  |some k=>some (.ref k a)
  |none=>none
 | .bc id gen size a c=>match tS id L 0 with
  |some k=>some (.bc k gen size a c)
  |none=>none
 | .fn f cs=>match s8 L cs with
  |some cs=>some (.fn f cs)
  |none=>none
 | .cC id gen size i a=>match tS id L 0 with
  |some k=>some (.cC k gen size i a)
  |none=>none
 | .t x=>some (.t x)
 | .aQ x=>some (.aQ x)
 | .agg cs=>match s8 L cs with
  |some cs=>some (.agg cs)
  |none=>none
 |_=>none
def s8(L:List Nat):List V->Option (List V)
 | []=>some []
 |c::cs=>match s9 L c,s8 L cs with
  |some c,some cs=>some (c::cs)
  |_,_=>none
end
mutual
theorem aa5{L:List Nat}: ∀(v e:V),s9 L v=some e->e.du L=v/\e.ok (e4 L.length)=true
 | .ref id n,e,h=>by
  simp only[s9] at h;split at h
  ·rename_i k o;cases h;obtain⟨_,a⟩:=z8 o;simp only[Nat.sub_zero] at a;have c:=(bR.1 a).1;exact⟨by simp[V.du,List.getD_eq_getElem?_getD,a],jd.2 c⟩
  cases h
 | .bc id gen size n q,e,h=>by
  simp only[s9] at h;split at h
  ·rename_i k o;cases h;obtain⟨_,a⟩:=z8 o;simp only[Nat.sub_zero] at a;have c:=(bR.1 a).1;exact⟨by simp[V.du,List.getD_eq_getElem?_getD,a],jd.2 c⟩
  cases h
 | .cC id gen size i n,e,h=>by
  simp only[s9] at h;split at h
  ·rename_i k o;cases h;obtain⟨_,a⟩:=z8 o;simp only[Nat.sub_zero] at a;have c:=(bR.1 a).1;exact⟨by simp[V.du,List.getD_eq_getElem?_getD,a],jd.2 c⟩
  cases h
 | .fn f cs,e,h=>by
  simp only[s9] at h;split at h
  ·rename_i l m;cases h;obtain⟨p,a⟩:=wP cs l m;exact⟨by simp[V.du,p],by simpa[V.ok] using a⟩
  cases h
 | .agg cs,e,h=>by
  simp only[s9] at h;split at h
  ·rename_i l m;cases h;obtain⟨p,a⟩:=wP cs l m;exact⟨by simp[V.du,p],by simpa[V.ok] using a⟩
  cases h
 | .t x,e,h=>by cases h;exact⟨rfl,rfl⟩
 | .aQ x,e,h=>by cases h;exact⟨rfl,rfl⟩
 | .bL _,_,h| .c4,_,h=>by cases h
theorem wP{L:List Nat}: ∀(cs a:List V),s8 L cs=some a->iR L a=cs/\gz (e4 L.length) a=true
 | [],_,h=>by cases h;exact⟨rfl,rfl⟩
 |c::cs,a,h=>by
  simp only[s8] at h;split at h
  ·rename_i i e k l;cases h;obtain⟨aJ,a2⟩:=aa5 c i k;obtain⟨m,n⟩:=wP cs e l;exact⟨by simp[iR,aJ,m],by simp[gz,a2,n]⟩
  cases h
end
def tR(L:List Nat)(H:Nat->Option E):List Nat->Option (List E)
 | []=>some []
 |id::c=>match H id with
  |some (.cells cs)=>match s8 L cs,tR L H c with
   |some cs,some e=>some (.cells cs::e)
   |_,_=>none
  |some (.arr ty gen size a)=>match tR L H c with
   |some e=>some (.arr ty gen size a::e)
   |none=>none
  |some (.a8 h m gen a [])=>match tR L H c with
   |some e=>some (.a8 h m gen a []::e)
   |none=>none
  |some (.a8 _ _ _ _ (_::_))=>none
  |none=>none
theorem z7{L:List Nat}{H:Nat->Option E}: ∀(a:List Nat) (gP:List E),tR L H a=some gP->gP.length=a.length/\ ∀(k:Nat) (e:E),gP[k]? =some e-> ∃id,a[k]? =some id/\H id=some (e.du L)/\e.ok (e4 L.length)=true
 | [],_,h=>by cases h;exact⟨rfl,λk e h=>by simp at h⟩
 |id::a,gP,h=>by
  simp only[tR] at h;split at h
  ·rename_i cs hid;split at h
   ·rename_i r l w n;cases h;obtain⟨aJ,a2⟩:=z7 a l n;obtain⟨x,y⟩:=wP cs r w;refine⟨by simp[aJ],λk e c=>?_⟩;cases k with
    |zero=>simp at c;subst c;exact⟨id,rfl,by rw[hid];simp only[E.du,x],y⟩
    |succ k=>simp at c;obtain⟨i,o,p⟩:=a2 k e c;exact⟨i,by simpa using o,p⟩
   cases h
  ·rename_i ty gen size q hid;split at h
   ·rename_i l n;cases h;obtain⟨aJ,a2⟩:=z7 a l n;refine⟨by simp[aJ],λk e c=>?_⟩;cases k with
    |zero=>simp at c;subst c;exact⟨id,rfl,hid,rfl⟩
    |succ k=>simp at c;obtain⟨i,o,p⟩:=a2 k e c;exact⟨i,by simpa using o,p⟩
   cases h
  ·rename_i A m gen q hid;split at h
   ·rename_i l n;cases h;obtain⟨aJ,a2⟩:=z7 a l n;refine⟨by simp[aJ],λk e c=>?_⟩;cases k with
    |zero=>simp at c;subst c;exact⟨id,rfl,hid,rfl⟩
    |succ k=>simp at c;obtain⟨i,o,p⟩:=a2 k e c;exact⟨i,by simpa using o,p⟩
   cases h
  ·cases h
  cases h
def A3(a:Nat):List Nat->Bool
 | []=>true
 |x::l=>bif Nat.beq x a then false else A3 a l
theorem LO{i:Nat}: ∀{l:List Nat},A3 i l=true->i∉l
 | [],_,h=>by cases h
 |x::l,h,hm=>by
  simp only[A3] at h;cases a:Nat.beq x i with
  |true=>rw[a] at h;cases h
  |false=>
   rw[a] at h;rcases dP.1 hm with rfl|hm
   ·simp at a
   exact LO h hm
def Ba:List Nat->Bool
 | []=>true
 |x::l=>A3 x l&&Ba l
theorem zw: ∀{l:List Nat},Ba l=true->l.Nodup
 | [],_=>List.nodup_nil
 |x::l,h=>by simp only[Ba,Bool.and_eq_true] at h;exact List.nodup_cons.2 ⟨LO h.1,zw h.2⟩
def Az(u:Nat->Bool):List Nat->Bool
 | []=>true
 |x::l=> !u x&&Az u l
theorem Kn{u:Nat->Bool}: ∀{l:List Nat},Az u l=true-> ∀id,id∈l->u id=false
 | [],_,_,h=>by cases h
 |x::l,h,id,hm=>by
  simp only[Az,Bool.and_eq_true,Bool.not_eq_true'] at h;rcases dP.1 hm with rfl|hm
  ·exact h.1
  exact Kn h.2 id hm
theorem KE{u:Nat->Bool}{i:Nat}: ∀{l:List Nat},i∈l->di u (l.map λk=>(k,true)) i=true
 |x::l,h=>by
  simp only[List.map_cons,di];by_cases a:i∈l
  ·rw[AM _ _ u _ ⟨true,eP.2 ⟨i,a,rfl⟩⟩];exact KE a
  rcases dP.1 h with rfl|h
  ·rw[mz _ _ _ (λv c=>a (by obtain⟨y,m,e⟩:=eP.1 c;cases e;exact m)),bW]
  exact bB h a
theorem KC{R:Type}: ∀(L:List Nat),L.Nodup-> ∀(f:Nat->R) (a:List R) (g:Nat->R),a.length=L.length->(∀(k:Nat) x,a[k]? =some x->g k=x)->di f (L.zip a)=lk f L g
 | [],_,f,a,g,_,_=>by simp[di,lk]
 |l::L,c,f,[],g,h,_=>by simp at h
 |l::L,c,f,x::a,g,h,n=>by
  simp only[List.nodup_cons] at c;simp only[List.zip_cons_cons,di,lk];rw[KC L c.2 (aU f l x) a (λk=>g (k+1)) (by simpa using h) (λk y p=>n (k+1) y (by simpa using p)),n 0 x rfl];funext i;by_cases e:i=l
  ·subst e;rw[nn c.1,bW,bW]
  rw[bX _ _ _ _ e];by_cases m:i∈L
  ·obtain⟨k,o⟩:=km.1 m;rw[ot c.2 o,ot c.2 o]
  rw[nn m,nn m,bX _ _ _ _ e]
abbrev jb:=Option (cS×List dh×List cr)
def tW(d:Option Tmp)(u:Nat->Bool)(v:V)(a:List cr):jb:=
 match a with
 | .nat k::a=>match u k,v.val with
  |false,true=>some (⟨fb d (.ref k 0),[(k,some (.cells v.cs))],[(k,true)]⟩,[],a)
  |_,_=>none
 |_=>none
def Gj(d:Option Tmp)(v:V)(a:List cr):jb:=
 match a with
 | .b true::a=>match (ny v).val,lF (ny v).cs with
  |true,some c=>some (⟨fb d (.aQ c),[],[]⟩,[],a)
  |_,_=>none
 |_=>none
def Qc:List cr->Bool
 | .b true::_=>true
 |_=>false
def F1(C:dM)(t:TypeId)(H:Nat->Option E)(a v:V)(o:List cr):jb:=
 match dz C.cc t with
 |none=>none
 |some i=>match a with
  | .ref id c=>match H id with
   |some (.cells cs)=>match v.val,nF v.cs,Nat.beq v.cs.length i.size,Nat.ble (c+i.size) cs.length with
    |true,true,true,true=>some (⟨[],[(id,some (.cells (mO cs c v.cs)))],[]⟩,[],o)
    |_,_,_,_=>none
   |_=>none
  | .cC id gen x k c=>match H id,lF (ny v).cs,o with
   |some (.arr e l n m),some w,.row r:: .rows h::o=>match (ny v).val,Nat.beq w.length i.size,Nat.ble (c+i.size) x with
    |true,true,true=>some (⟨[],[(id,some (.arr e l n h))],[]⟩,
      [.q l gen,.q n x,.p (m[k]? =some r),.p (h=m.set k (r.take c++w++r.drop (c+w.length)))],o)
    |_,_,_=>none
   |_,_,_=>none
  |_=>none
def tX(k a n:Nat):List (Nat×Nat×V)->List dh
 | []=>[]
 |h::c=>bif Nat.ble a h.2.1&&Nat.blt h.2.1 (a+n) then .q h.1 k::tX k a n c else tX k a n c
def tY(k a n:Nat):List (Nat×Nat×V)->List dh
 | []=>[]
 |h::c=>bif Nat.ble a h.2.1&&Nat.blt h.2.1 (a+n) then .p (h.1≠k)::tY k a n c else tY k a n c
def Ft(C:dM)(t:TypeId)(H:Nat->Option E)(a v:V)(w:List cr):jb:=
 match dz C.cc t,a,w with
 |some i,.cC id gen y k c,.row r::w=>match H id with
  |some (.a8 x m e h o)=>match v.val&&(nF v.cs&&(Nat.beq v.cs.length i.size&&(Nat.ble (c+i.size) r.length&&Nat.blt 0 i.size))),rF o c i.size with
   |true,some l=>some (⟨[],[(id,some (.a8 x m e h (p8 c v.cs o)))],[]⟩,.q e gen:: .q (aO x m).size y:: .p (h[k]? =some r)::(rM k l++tX k c i.size o),w)
   |_,_=>none
  |_=>none
 |some i,.cC id gen y k c,.int q:: .nat n:: .row r::w=>match H id with
  |some (.a8 x m e h o)=>match v.val&&(nF v.cs&&(Nat.beq v.cs.length i.size&&(Nat.ble (c+i.size) r.length&&Nat.blt 0 i.size))),rF ((o.drop q.toNat).take n) c i.size with
   |true,some l=>some (⟨[],[(id,some (.a8 x m e h (o.take q.toNat++(p8 c v.cs ((o.drop q.toNat).take n)++(o.drop q.toNat).drop n))))],[]⟩,
     .q e gen:: .q (aO x m).size y:: .p (h[k]? =some r)::(rM k l++(tX k c i.size ((o.drop q.toNat).take n)++(tY k c i.size (o.take q.toNat)++tY k c i.size ((o.drop q.toNat).drop n)))),w)
   |_,_=>none
  |_=>none
 |_,_,_=>none
def wU(z:List T):List (Nat×Nat)->Bool
 | []=>true
 |p::l=>(match z[p.1]? with|some .fo=>true|_=>false)&&wU z l
def Gq(C:dM)(d:Option Tmp)(t:TypeId)(u:Nat->Bool)(v w:V)(c:List cr):jb:=
 match dz C.cc t with
 |none=>none
 |some i=>match i.u with
  | .slice e=>match dz C.cc e with
   |none=>none
   |some j=>match v,w,c,lF (gX j.z).cs with
    | .t (.int .i64 n),.t (.int .i64 m),.nat k:: .rows R::c,some a=>match u k,(gX j.z).val,Nat.beq a.length j.size,Nat.blt 0 j.size&&Nat.ble j.bytes 200000 with
     |false,true,true,true=>some (⟨fb d (.bc k 1 j.size 0 R.length),[(k,some (.arr e 1 j.size R))],[(k,true)]⟩,[.q n.toNat m.toNat,.p (mk n (a.map iS)=some R),.p (0<=m)],c)
     |_,_,_,_=>none
    | .t (.int .i64 n),.t (.int .i64 m),.nat k:: .dS _ h q:: .rows R::c,some a=>match u k,(gX j.z).val&&wU a (aO h q).bm,Nat.beq a.length j.size,Nat.blt 0 j.size&&Nat.ble j.bytes 200000 with
     |false,true,true,true=>some (⟨fb d (.bc k 1 j.size 0 R.length),[(k,some (.a8 h q 1 R []))],[(k,true)]⟩,[.q (aO h q).ty e,.q (aO h q).size j.size,.q n.toNat m.toNat,.p (mk n (a.map iS)=some R),.p (0<=m)],c)
     |_,_,_,_=>none
    |_,_,_,_=>none
  |_=>none
def FJ(C:dM)(d:Option Tmp)(t x:TypeId)(H:Nat->Option E)(v w:V)(m:List cr):jb:=
 match dz C.cc t with
 |none=>none
 |some i=>match i.u with
  | .slice e=>match dz C.cc e with
   |none=>none
   |some j=>match v,ny w,m with
    | .bc k gen size n o,.t (.aD l),.rows R::m=>match H k with
     |some (.arr r a c h)=>match Nat.beq n 0,Nat.beq j.z.cells.size j.size&&(Nat.blt 0 j.size&&Nat.ble j.bytes 140000),Nat.beq r e&&Nat.beq x t with
      |true,true,true=>some (⟨fb d (.bc k (a+1) size 0 R.length),[(k,some (.arr r (a+1) c R))],[]⟩,
        [.q a gen,.q c size,.q size j.size,.q o h.length,.p (app h l=some R),.p (Rows j.size h),.p (Rows j.size l)],m)
      |_,_,_=>none
     |_=>none
    |_,_,_=>none
  |_=>none
def EO(C:dM)(d:Option Tmp)(t B:TypeId)(H:Nat->Option E)(v w:V)(x:List cr):jb:=
 match dz C.cc t with
 |none=>none
 |some i=>match i.u with
  | .slice e=>match dz C.cc e with
   |none=>none
   |some j=>match v,w,x with
    | .bc k gen size o l,.bc ei I L D y,.rows R::x=>match H k,H ei with
     |some (.a8 A m c a []),some (.a8 F W G (Q::n) r)=>match Nat.beq o 0&&Nat.beq D 0,Nat.beq j.z.cells.size j.size&&(Nat.blt 0 j.size&&Nat.ble j.bytes 140000),Nat.beq B t&&(wJ (aO A m) (n.length+1) r&&tC r) with
      |true,true,true=>some (⟨fb d (.bc k (c+1) size 0 R.length),[(k,some (.a8 A m (c+1) R (h7 a.length r)))],[]⟩,
        [.q c gen,.q G I,.q L size,.q size j.size,.q (aO A m).size size,.q (aO A m).ty e,.q y (n.length+1),.q l a.length,.p (aO F W=aO A m),.p (app a (Q::n)=some R),.p (Rows j.size a),.p (Rows j.size (Q::n))],x)
      |_,_,_=>none
     |some (.arr U c h a),some _=>match Nat.beq ei k&&Nat.beq o 0,Nat.beq U e&&(Nat.beq B t&&Nat.blt 0 j.size) with
      |true,true=>some (⟨fb d (.bc k gen size 0 (l+y)),[(k,some (.arr U c h R))],[]⟩,
        [.q c gen,.q I gen,.q h size,.q L size,.q j.size size,.p (l+y<=a.length),.p (D+y<=a.length),.p (R=a.take l++(a.drop D).take y++a.drop (l+y))],x)
      |_,_=>none
     |_,_=>none
    | .bc k gen size o l,.t (.aD []),.int 0::x=>match H k with
     |some (.arr _ c h _)=>match Nat.beq o 0&&Nat.blt 0 j.size,Nat.beq B t with
      |true,true=>some (⟨fb d (.bc k gen size 0 l),[],[]⟩,[.q c gen,.q h size,.q j.size size],x)
      |_,_=>none
     |_=>none
    |_,_,_=>none
  |_=>none
def v7(d:dQ):Nat->List V->Option (List T×List (Nat×Nat×V))
 |_,[]=>some ([],[])
 |j,v::c=>match v7 d (j+1) c with
  |none=>none
  |some (r,a)=>match d.ek j with
   |some _=>bif v.one then some (.aD []::r,(0,j,v)::a) else none
   |none=>match yv v with
    |some x=>some (x::r,a)
    |none=>none
def p7:Nat->List V->List (Nat×Nat×V)
 |_,[]=>[]
 |i,v::vs=>(i,0,v)::p7 (i+1) vs
def Gr(C:dM)(d:Option Tmp)(t:TypeId)(n:Nat)(l:List Nat)(u:Nat->Bool)(a:List V)(h:List cr):jb:=
 match dz C.cc t with
 |none=>none
 |some i=>match i.u with
  | .slice e=>match dz C.cc e with
   |none=>none
   |some j=>match n,h with
    |1,.lt k c m::h=>match kP (λi=>some (i*j.size,j.size)) (List.replicate (1*j.size) .c4) (l.zip (ue ((aO c m).ek 0) a)) with
     |none=>none
     |some cs=>match v7 (aO c m) 0 cs with
      |none=>none
      |some (r,o)=>match u k,Nat.beq cs.length j.size&&Nat.beq (aO c m).size j.size,Nat.beq l.length a.length&&Nat.beq (aO c m).ty e,Nat.ble (1*j.size) 16777216,Nat.blt 0 j.size with
       |false,true,true,true,true=>some (⟨fb d (.bc k 1 j.size 0 1),[(k,some (.a8 c m 1 [r] o))],[(k,true)]⟩,[],h)
       |_,_,_,_,_=>none
    |n,.lt k c m::h=>match kP (λi=>some (i*j.size,j.size)) (List.replicate (n*j.size) .c4) (l.zip (gS a)) with
     |none=>none
     |some cs=>match u k,Nat.beq j.size 1&&(Nat.beq cs.length n&&nF cs),Nat.beq l.length a.length&&(Nat.beq (aO c m).ty e&&Nat.beq (aO c m).size 1),Nat.ble (n*j.size) 16777216,Nat.blt 0 n with
      |false,true,true,true,true=>some (⟨fb d (.bc k 1 1 0 n),[(k,some (.a8 c m 1 (List.replicate n [.aD []]) (p7 0 cs)))],[(k,true)]⟩,[],h)
      |_,_,_,_,_=>none
    |_,_=>none
  |_=>none
def GS(C:dM)(d:Option Tmp)(t:TypeId)(n:Nat)(c:List Nat)(u:Nat->Bool)(a:List V)(h:List cr):jb:=
 match dz C.cc t with
 |none=>none
 |some i=>match i.u with
  | .slice e=>match dz C.cc e with
   |none=>none
   |some j=>match n,c,h with
    |0,[],.nat k::h=>match u k with
     |false=>some (⟨fb d (.bc k 1 j.size 0 0),[(k,some (.arr e 1 j.size []))],[(k,true)]⟩,[],h)
     |true=>none
    |n,c,.int 1:: .nat k::h=>match kP (λi=>some (i*j.size,j.size)) (List.replicate (n*j.size) .c4) (c.zip (gS a)) with
     |none=>none
     |some cs=>match lF cs with
      |none=>none
      |some l=>match u k,Nat.beq l.length (n*j.size),Nat.beq c.length a.length,Nat.ble (n*j.size) 16777216,Nat.blt 0 j.size with
       |false,true,true,true,true=>some (⟨fb d (.bc k 1 j.size 0 (lz j.size n l).length),[(k,some (.arr e 1 j.size (lz j.size n l)))],[(k,true)]⟩,[],h)
       |_,_,_,_,_=>none
    |n,c,.int 2:: .rows R::h=>match kP (λi=>some (i*j.size,j.size)) (List.replicate (n*j.size) .c4) (c.zip (gS a)) with
     |none=>none
     |some cs=>match lF cs with
      |none=>none
      |some l=>match Nat.beq l.length (n*j.size),Nat.beq c.length a.length,Nat.ble (n*j.size) 16777216 with
       |true,true,true=>some (⟨fb d (.t (.aD R)),[],[]⟩,[.p (lz j.size n l=R)],h)
       |_,_,_=>none
    |n,c,.int 0::h=>match kP (λi=>some (i*j.size,j.size)) (List.replicate (n*j.size) .c4) (c.zip (gS a)) with
     |none=>none
     |some cs=>match lF cs with
      |none=>none
      |some l=>match Nat.beq l.length (n*j.size),Nat.beq c.length a.length,Nat.ble (n*j.size) 16777216 with
       |true,true,true=>some (⟨fb d (.t (.aD (lz j.size n l))),[],[]⟩,[],h)
       |_,_,_=>none
    |_,_,_=>none
  |_=>none
mutual
def rJ:V->Bool
 | .t (.int _ _)| .t (.bool _)| .t (.str _)=>true
 | .agg cs=>tV cs
 | .bL cs=>tV cs
 |_=>false
def tV:List V->Bool
 | []=>true
 |c::cs=>rJ c&&tV cs
end
def xg(H:Nat->Option E):V->Option (T×List dh)
 | .bc k gen size h i=>match H k with
  |some (.arr _ c e a)=>some (.aD a,[.q gen c,.q size e,.q h 0,.q i a.length])
  |some (.a8 l m c a [])=>some (.aD a,[.q gen c,.q size (aO l m).size,.q h 0,.q i a.length])
  |_=>none
 | .t x=>some (iS x,[])
 |_=>none
def Bk(H:Nat->Option E):List V->Option (List T×List dh)
 | []=>some ([],[])
 |v::a=>match xg H v,Bk H a with
  |some (x,c),some (e,h)=>some (x::e,c++h)
  |_,_=>none
mutual
def nc(H:Nat->Option E):V->Option (V×List dh)
 | .bc k gen size c h=>match xg H (.bc k gen size c h) with
  |some (x,a)=>some (.t x,a)
  |none=>none
 | .t x=>some (.t (iS x),[])
 | .aQ cs=>some (.aQ cs,[])
 | .ref id c=>match H id with
  |some (.cells cs)=>match Bk H cs with
   |some (eH,a)=>some (.aQ (eH.drop c),a)
   |none=>none
  |_=>none
 | .agg cs=>match o2 H cs with
  |some (e,a)=>some (.agg e,a)
  |none=>none
 | .bL cs=>match o2 H cs with
  |some (e,a)=>some (.bL e,a)
  |none=>none
 | .fn f cs=>match o2 H cs with
  |some (e,a)=>some (.fn f e,a)
  |none=>none
 | .cC _ _ _ _ _=>none
 | .c4=>none
def o2(H:Nat->Option E):List V->Option (List V×List dh)
 | []=>some ([],[])
 |v::a=>match nc H v,o2 H a with
  |some (x,c),some (e,h)=>some (x::e,c++h)
  |_,_=>none
end
def OM:List cr->List cr
 | .nat _::hs=>OM hs
 |hs=>hs
def GM(C:dM)(d:Option Tmp)(H:Nat->Option E)(a:List V)(e:List cr):jb:=
 match a with
 | .fn f c::args=>match OM (e.drop 1) with
  | .v r::e=>match o2 H (args++c),rJ r with
   |some (h,i),true=>some (⟨fb d r,[],[]⟩,i++[.p (kW C.P C.G f h r)],e)
   |_,_=>none
  |_=>none
 |_=>none
def Gi(C:dM)(d:Option Tmp)(c:List V)(e:List cr):jb:=
 match c with
 | .fn f a::args=>match e with
  | .v r::e=>match gz gx (gS (args++a)) with
   |true=>some (⟨fb d r,[],[]⟩,[.p (kW C.P C.G f (gS (args++a)) r)],e)
   |false=>none
  | .nat _:: .v r::e=>some (⟨fb d r,[],[]⟩,[.p (gz gx (gS (args++a))=true),.p (kW C.P C.G f (gS (args++a)) r)],e)
  |_=>none
 |_=>none
def G4(C:dM)(d:Option Tmp)(h:List V)(H:Nat->Option E)(u:Nat->Bool)(l:List cr):jb:=
 match h with
 | .fn f i::args=>match l with
  | .dJ L a r out::l=>match s8 L (gS (args++i)),tR L H L,Ba (L++a)&&Az u a&&Nat.beq out.length (L++a).length with
   |some c,some gP,true=>some (⟨fb d (r.du (L++a)),(L++a).zip (out.map λe=>some (e.du (L++a))),(L++a).map λk=>(k,true)⟩,[.p (jc C.P C.G f gP c r out)],l)
   |_,_,_=>none
  |_=>none
 |_=>none
def FN(C:dM)(t:TypeId)(H:Nat->Option E)(v:V)(n:List cr):jb:=
 match dz C.cc t with
 |none=>none
 |some i=>match i.u with
  | .slice e=>match dz C.cc e with
   |none=>none
   |some j=>match v,n,lF (gX j.z).cs with
    | .bc k gen size l m,.rows R::n,some o=>match H k,(gX j.z).val with
     |some (.arr r h a c),true=>some (⟨[],[(k,some (.arr r h a R))],[]⟩,[.q h gen,.q a size,.q o.length size,.p (l+m<=c.length/\R=c.take l++List.replicate m (o.map iS)++c.drop (l+m))],n)
     |_,_=>none
    |_,_,_=>none
  |_=>none
def Gf(C:dM)(d:Option Tmp)(t:TypeId)(H:Nat->Option E)(v w:V)(r:List cr):jb:=
 match dz C.cc t with
 |none=>none
 |some i=>match i.u with
  | .slice e=>match dz C.cc e with
   |none=>none
   |some j=>match v,ny w,r with
    | .bc k gen size n o,.t (.aD a),.rows R:: .nat m::r=>match H k,Nat.blt 0 j.size with
     |some (.arr x l c h),true=>some (⟨fb d (.t (.int .i64 m)),[(k,some (.arr x l c R))],[]⟩,
       [.q l gen,.q c size,.q size j.size,.q m (Nat.min a.length o),.p (Rows j.size a),.p (n+o<=h.length/\R=h.take n++a.take m++h.drop (n+m))],r)
     |_,_=>none
    |_,_,_=>none
  |_=>none
def abO:List cr->Bool
 | .dJ _ _ _ _::_=>true
 |_=>false
def Hd(C:dM)(o:Oper)(e:List V)(H:Nat->Option E)(u:Nat->Bool)(h:List cr):jb:=
 match j4 C.nt o.dst with
 |false=>none
 |true=>match o.op with
  | .box _ _=>match e with
   | [v]=>match Qc h with
    |true=>Gj o.dst v h
    |false=>tW o.dst u v h
   |_=>none
  | .alloc t=>match dz C.cc t with
   |some i=>tW o.dst u (gX i.z) h
   |none=>none
  | .store t _ _=>match o.dst,e with
   |none,[a,v]=>match F1 C t H a v h with
    |some r=>some r
    |none=>Ft C t H a v h
   |_,_=>none
  | .makeSlice t _ _=>match e with
   | [v,w]=>Gq C o.dst t u v w h
   |_=>none
  | .buildSlice t n l=>match GS C o.dst t n (l.toList.map (·.1)) u e h with
   |some r=>some r
   |none=>Gr C o.dst t n (l.toList.map (·.1)) u e h
  | .call c=>match c.callee with
   | .value _=>match abO h with
    |true=>G4 C o.dst e H u h
    |false=>match Qc h with
     |true=>GM C o.dst H e h
     |false=>Gi C o.dst e h
   | .builtin .append=>match c.args.toList,c.argTypes.toList,e with
    | [_,_],[t,m],[v,w]=>match FJ C o.dst t m H v w h with
     |some r=>some r
     |none=>EO C o.dst t m H v w h
    |_,_,_=>none
   | .builtin .clear=>match o.dst,c.args.toList,c.argTypes.toList,e with
    |none,[_],[t],[v]=>FN C t H v h
    |_,_,_,_=>none
   | .builtin .copy=>match c.args.toList,c.argTypes.toList,e with
    | [_,_],[t,_],[v,w]=>Gf C o.dst t H v w h
    |_,_,_=>none
   | .builtin _=>match xp C.P C.cc H o.op e h with
    |some (v,k,h)=>some (⟨fb o.dst v,[],[]⟩,k,h)
    |none=>none
   |_=>none
  |_=>match xp C.P C.cc H o.op e h with
   |some (v,k,h)=>some (⟨fb o.dst v,[],[]⟩,k,h)
   |none=>none
theorem Y1{z:Value}{a:List T}(k:(gX z).val=true)(l:lF (gX z).cs=some a):z.cells.size=a.length/\ ∀(w:World) (X:Nat->Prop) (j:Nat) (u:Value) (x:T),z.cells[j]? =some u->(a.map iS)[j]? =some x->cX w X x u:=by
 have h:=fun(w:World) (X:Nat->Prop)=>(yx (⟨λ_=>none,λ_ _=>False⟩:Map) w X z).cells k;have i:=oF l;refine⟨by rw[(h default λ_=>False).1,i,c5],λw X j u x m c=>?_⟩;rw[ey] at c;cases e:a[j]? with
 |none=>rw[e] at c;cases c
 |some y=>
  rw[e] at c;simp only[Option.map_some,Option.some.injEq] at c;subst c
  have:=(h w X).2 j (.t y) u (by rw[i,ey,e];rfl) m;cases this with
  |t _ _ n=>exact n.x6
section steps
variable {K:Ctx} {s:S} {d:Option Tmp} {ty:TypeId} {pos:String} {af:Array Edge} {g:Option (Nat×Bool)}
variable {t:TypeId} {u:TypeDesc} {z:Value} {size bytes gen:Nat}
theorem SF(a:Array Value)(n i j:Nat)(h:i<n)(e:j<a.size):(Builtin.zeroCells a n).toList[i*a.size+j]? =a[j]? :=by
 have c:i*a.size+j<n*a.size:=by
  have:(i+1)*a.size<=n*a.size:=dA _ h;rw[dp] at this;omega
 have k:(i*a.size+j)%a.size=j:=by rw[Nat.mul_comm,Nat.mul_add_mod];exact Nat.mod_eq_of_lt e
 simp[Builtin.zeroCells,c,k,e]
theorem ZK(x:Operand)(U c h:Nat)(e e':TypeId)(rows:List (List T))(A:List T)(hx:s.get x= .bc U gen size c h)(hH:s.H U=some (.arr e' gen size rows))(e6:K.P.underlying t=some (.slice e)){sz:Nat}(he:cd K.P e u z sz bytes)
  (bJ:(gX z).val=true) (eM:lF (gX z).cs=some A) (G:A.length=size) (cE:c+h<=rows.length):
  dT K ⟨none,.call {callee:= .builtin .clear,args:= #[x],argTypes:= #[t]},ty,pos,af,g⟩ s {s with H:=aU s.H U (some (.arr e' gen size (rows.take c++List.replicate h (A.map iS)++rows.drop (c+h))))}:=by
 intro β a w next Q b7 W
 have I:=b7.get x;rw[hx] at I;have Y:=(b7.heap U _ hH).2;obtain⟨q,E⟩:=jq Y;obtain⟨qu,M⟩:=Y1 bJ eM;unfold Oper.wp;cases h with
 |zero=>
  obtain⟨iI,cap,o⟩: ∃iI cap,a.eval x= .slice iI 0 cap:=by
   rcases fa I E with ⟨cap,b,n,hD,o,_⟩|⟨_,_,_,o⟩
   ·exact⟨_,cap,o⟩
   exact⟨none,0,o⟩
  have y:(execOp a.eval ⟨none,.call {callee:= .builtin .clear,args:= #[x],argTypes:= #[t]},ty,pos,af,g⟩).run K.P w= .ok (.value (.tuple #[])) w:=by
   cases iI<;>simp[execOp,resolve,invoke,builtin,o,Builtin.clear_,run_underlying e6]
  rw[y]
  have:rows.take c++List.replicate 0 (A.map iS)++rows.drop (c+0)=rows:=aV
  refine W β _ _ ?_;rw[this];exact b7.yr U _ hH
 |succ h=>
  rcases fa I E with ⟨cap,b,n,hD,o,jI,hw,hs,cJ,pa,hm⟩|⟨_,_,h0,_⟩
  ·subst jI;rcases Y.2 with ⟨N,_⟩|⟨cu,C,N,h2,h3,h4,h5⟩
   ·rw[E] at N;cases N
   rw[E] at N;cases N;have D:z.cells.size=size:=by rw[qu,G]
   have p:(Builtin.zeroCells z.cells (h+1)).toList.length=(h+1)*size:=by rw[l5,size_zeroCells,D]
   have nu:c*size+(h+1)*size<=C.size:=by
    have:(c+(h+1))*size<=rows.length*size:=dA _ cE;rw[dp] at this;omega
   have r: ∀(i j:Nat) (u:Value),i<h+1->j<size->(Builtin.zeroCells z.cells (h+1)).toList[i*size+j]? =some u->z.cells[j]? =some u:=by
    intro i j u aH F hu;rw[<-D] at F hu
    rwa [SF _ _ _ _ aH F] at hu
   have V: ∀v∈(Builtin.zeroCells z.cells (h+1)).toList,v.oneCell'=true:=by
    intro v ad9;obtain⟨k,W⟩:=km.1 ad9;have L:=(bR.1 W).1;rw[p] at L;have hp:0<size:=by
     rcases Nat.eq_zero_or_pos size with e0|e0
     ·rw[e0] at L;omega
     exact e0
    have hdiv:k / size<h+1:=(vz hp).2 L;have PT:k%size<size:=Nat.mod_lt _ hp;have o':(Builtin.zeroCells z.cells (h+1)).toList[k / size*size+k%size]? =some v:=by rw[Nat.div_add_mod'];exact W
    have h9:=r _ _ _ hdiv PT o'
    have:(A.map iS)[k%size]? =some (iS A[k%size]):=by rw[ey,br O];rfl
    exact(bn.t (β:=β) _ _ (M w (λ_=>False) _ _ _ h9 this)).iU rfl
   have pe:=run_storeCells_at K.P b (c*size) e' (Builtin.zeroCells z.cells (h+1)).toList 0 C w h2 (by rw[p];omega) V;simp only[Nat.add_zero] at pe;have y:(execOp a.eval ⟨none,.call {callee:= .builtin .clear,args:= #[x],argTypes:= #[t]},ty,pos,af,g⟩).run K.P w= .ok (.value (.tuple #[])) (w.setRow b (C.toList.take (c*size)++(Builtin.zeroCells z.cells (h+1)).toList++C.toList.drop (c*size+(Builtin.zeroCells z.cells (h+1)).toList.length)).toArray):=by
    simp[execOp,resolve,invoke,builtin,o,Builtin.clear_,run_underlying e6,he.sT,pe]
   rw[y];refine W β _ _ (M9 b7 U b e' rows _ C _ hH E h2 (by simp[p];omega) ?_ ?_ ?_)
   ·have:(rows.take c++List.replicate (h+1) (A.map iS)++rows.drop (c+(h+1))).length=rows.length:=bQ
    rw[this];exact h3
   ·intro m l;rw[d',d'] at l;rcases l with (l|l)|l
    ·exact h4 m (gh l)
    ·rw[(pT.1 l).2,c5];exact G
    exact h4 m (eY l)
   intro i j m kn l4 aJ a2 a3;have a3:(C.toList.take (c*size)++(Builtin.zeroCells z.cells (h+1)).toList++C.toList.drop (c*size+(Builtin.zeroCells z.cells (h+1)).toList.length))[i*size+j]? =some l4:=by simpa using a3
   rw[p] at a3;have B:(C.toList.take (c*size)).length=c*size:=bQ
   by_cases c1:i<c
   ·rw[iy,gG bQ,ft,a1 c1] at aJ;have F:j<size:=by rw[<-h4 m (bE aJ)];exact(bR.1 a2).1
    have hlt:i*size+j<c*size:=mF c1 F;rw[iy,gG O,ft,a1 hlt] at a3;exact .inl ⟨i,m,aJ,a2,by simpa using a3⟩
   by_cases c2:i<c+(h+1)
   ·rw[gG bQ,gF bQ] at aJ;have l:m=A.map iS:=by
     have:=bE aJ;exact(pT.1 this).2
    subst l;have F:j<size:=by rw[<-G,<-c5 (f:=iS)];exact(bR.1 a2).1
    have e1:i*size+j=c*size+((i-c)*size+j):=by rw[th];have:=dA size (O:c<=i);omega
    have hlt:(i-c)*size+j<(h+1)*size:=mF O F;rw[e1,gG (by rw[dE,B,p];omega),gF O,B,Nat.add_sub_cancel_left] at a3;exact .inr λw X=>M w X j _ _ (r _ _ _ O F a3) a2
   have R:(rows.take c++List.replicate (h+1) (A.map iS)).length=c+(h+1):=bQ
   rw[gF O,R,fZ,show c+(h+1)+(i-(c+(h+1)))=i by omega] at aJ;have F:j<size:=by rw[<-h4 m (bE aJ)];exact(bR.1 a2).1
   have iN:c*size+(h+1)*size<=i*size+j:=by
    have:=dA size (O:c+(h+1)<=i);rw[dp] at this;omega
   rw[gF (by rw[dE,B,p];omega),dE,B,p,fZ,show c*size+(h+1)*size+(i*size+j-(c*size+(h+1)*size))=i*size+j by omega] at a3;exact .inl ⟨i,m,aJ,a2,by simpa using a3⟩
  omega
theorem VF(k h l c:Nat)(x y:Operand)(e:TypeId)(rows:List (List T))(cv: ∀i,d=some i->Nat.blt i K.nt=true)(hx:s.get x= .bc k gen size 0 h)(hy:s.get y= .bc k gen size l c)(hH:s.H k=some (.arr e gen size rows))
  (e6:K.P.underlying t=some (.slice e)) (he:cd K.P e u z size bytes) (hp:0<size) (h1:h+c<=rows.length) (h2:l+c<=rows.length):
  dT K ⟨d,.call {callee:= .builtin .append,args:= #[x,y],argTypes:= #[t,t]},ty,pos,af,g⟩ s
   (({s with H:=aU s.H k (some (.arr e gen size (rows.take h++(rows.drop l).take c++rows.drop (h+c))))}:S).put d (.bc k gen size 0 (h+c))):=by
 intro β a w next Q b7 hkk
 have X:=b7.get x;rw[hx] at X;have lT:=b7.get y;rw[hy] at lT;have hQ:=(b7.heap k _ hH).2;have iM:=hQ.1;obtain⟨q,Y⟩:=jq hQ;obtain⟨_,i,mv,hi2,qs,uC⟩:=id he;unfold Oper.wp;cases c with
 |zero=>
  obtain⟨iI,cap,f⟩: ∃iI cap,a.eval y= .slice iI 0 cap:=by
   rcases fa lT Y with ⟨cap,b,n,hD,p,_⟩|⟨_,_,_,p⟩
   ·exact⟨_,cap,p⟩
   exact⟨none,0,p⟩
  have adX:rows.take h++(rows.drop l).take 0++rows.drop (h+0)=rows:=aV
  have G:(execOp a.eval ⟨d,.call {callee:= .builtin .append,args:= #[x,y],argTypes:= #[t,t]},ty,pos,af,g⟩).run K.P w= .ok (.value (a.eval x)) w:=by
   rcases fa X Y with ⟨xj,b,n,hD,p,_,_,_,_,cE,_⟩|⟨_,_,_,p⟩
   ·cases iI<;>simp[execOp,resolve,invoke,builtin,p,f,Builtin.append_,run_underlying e6,sizeOf,typeInfo,mv,Builtin.lenOf,Builtin.firstCells,cE,storeCells,loadCells,loadCellsFrom]
   cases iI<;>simp[execOp,resolve,invoke,builtin,p,f,Builtin.append_,run_underlying e6,sizeOf,typeInfo,mv,Builtin.lenOf,Builtin.firstCells,loadCells,loadCellsFrom]
  rw[G];refine hkk β _ w ?_;have k6:aU s.H k (some (E.arr e gen size rows))=s.H:=by
   funext j;by_cases D:j=k
   ·subst D;rw[bW,hH]
   rw[bX _ _ _ _ D]
  rw[adX,k6];exact b7.put d cv X
 |succ c=>
  rcases fa lT Y with ⟨ab9,b,n,hD,f,jI,hw,hs,cJ,pa,hm⟩|⟨_,_,h0,_⟩
  ·subst jI;rcases fa X Y with ⟨A,gm,Iq,afP,p,kE,xK,M,sl,agv,BS⟩|⟨h0,_⟩
   ·cases kE;rcases hQ.2 with ⟨g1,_⟩|⟨cu,B,g1,g2,g3,g4,g5⟩
    ·rw[Y] at g1;cases g1
    rw[Y] at g1;cases g1;have P4:B.size=Iq:=by
     unfold World.shape? at M;rw[g2] at M;simp at M;exact M.2
    obtain⟨C,P6⟩: ∃C,C=(B.toList.drop (l*size)).take ((c+1)*size):=⟨_,rfl⟩
    have hle:(l+(c+1))*size<=B.size:=gE (dA _ h2) g3;rw[dp] at hle;have F:C.length=(c+1)*size:=by rw[P6];simp;omega
    have I: ∀j v,C[j]? =some v->B[l*size+j]? =some v/\j<(c+1)*size:=λj v bJ=>by
     have D:=(bR.1 bJ).1;rw[F] at D;rw[P6,ft,a1 D,fZ] at bJ;exact⟨by simpa using bJ,D⟩
    have N: ∀r,r<rows.length-> ∃m,rows[r]? =some m/\m.length=size:=λr xC=>⟨_,br xC,g4 _ (fC xC)⟩
    have Hz: ∀j v,C[j]? =some v->w.cell? ((⟨b,l*size,none⟩:Addr).add j)=some v:=λj v bJ=>by
     rw[jh];simp only[World.cell?,g2];exact(I j v bJ).1
    have nv: ∀v,v∈C->v.oneCell'=true:=λv bJ=>by
     obtain⟨j,D⟩:=km.1 bJ;obtain⟨h3,h4⟩:=I j v D;have PT:j%size<size:=Nat.mod_lt _ hp;have hdiv:j / size<c+1:=(vz hp).2 h4;obtain⟨m,HX,BW⟩:=N (l+j / size) O;have ac5:(l+j / size)*size+j%size=l*size+j:=by rw[dp,pP,Nat.div_add_mod']
     exact(g5 (l+j / size) (j%size) m m[j%size] v HX (br O) (by rw[ac5];exact h3)).iU
    have nu:h*size+C.length<=B.size:=by
     rw[F,<-dp];exact gE (dA _ h1) g3
    have L:h+(c+1)<=A:=by
     have:(h+(c+1))*size<=A*size:=by
      rw[dt] at sl;rw[sl,<-P4];exact gE (dA _ h1) g3
     exact Nat.le_of_mul_le_mul_right this hp
    have R:=run_append_room (P:=K.P) w t ty e i e6 mv b h A B g2 ⟨b,l*size,none⟩ (c+1) ab9 C (by rw[qs];exact F) Hz nv L (by rw[qs];exact nu);rw[qs] at R;have G:(execOp a.eval ⟨d,.call {callee:= .builtin .append,args:= #[x,y],argTypes:= #[t,t]},ty,pos,af,g⟩).run K.P w= .ok (.value (.slice (some ⟨b,0,none⟩) (h+(c+1)) A)) (w.setRow b (B.toList.take (h*size)++C++B.toList.drop (h*size+C.length)).toArray):=by
     rw[gi] at p;simp[execOp,resolve,invoke,builtin,p,f,R]
    rw[G];have V:(B.toList.take (h*size)).length=h*size:=bQ
    have uD:(B.toList.take (h*size)++C++B.toList.drop (h*size+C.length)).toArray.size=B.size:=bQ
    have U:(rows.take h).length=h:=by rw[cG];omega
    have W:((rows.drop l).take (c+1)).length=c+1:=by rw[cG,fs];omega
    have hrel:=M9 b7 k b e rows (rows.take h++(rows.drop l).take (c+1)++rows.drop (h+(c+1))) B _ hH Y g2 uD ?_ ?_ ?_
    ·refine hkk β _ _ (hrel.put d cv ?_);have il:bn β (w.setRow b (B.toList.take (h*size)++C++B.toList.drop (h*size+C.length)).toArray) (own K β (aU s.H k (some (.arr e gen size (rows.take h++(rows.drop l).take (c+1)++rows.drop (h+(c+1))))))) (.bc k gen size 0 (h+(c+1))) (.slice (some ⟨b,0*size,none⟩) (h+(c+1)) A):=by
      refine .bc k gen size 0 _ A b Iq e iM Y (by simpa using xK) ?_ sl L BS;unfold World.shape?;rw[setRow_heap _ _ _ _ _ _ g2];simp only[uD,P4]
     rw[gi] at il;exact il
    ·rw[dE,dE,U,W,fs]
     have:h+(c+1)+(rows.length-(h+(c+1)))=rows.length:=O
     rw[this];exact g3
    ·intro m o;rw[d',d'] at o;rcases o with (o|o)|o
     ·exact g4 m (gh o)
     ·exact g4 m (eY (gh o))
     exact g4 m (eY o)
    intro r j m kn l4 aJ a2 a3;have a3:(B.toList.take (h*size)++C++B.toList.drop (h*size+C.length))[r*size+j]? =some l4:=by simpa using a3
    refine .inl ?_;by_cases c1:r<h
    ·rw[iy,gG O,ft,a1 c1] at aJ;have D:j<size:=by rw[<-g4 m (bE aJ)];exact(bR.1 a2).1
     have hlt:r*size+j<h*size:=mF c1 D;rw[iy,gG O,ft,a1 hlt] at a3;exact⟨r,m,aJ,a2,by simpa using a3⟩
    by_cases c2:r<h+(c+1)
    ·rw[gG (by rw[dE];omega),gF O,U,ft,a1 O,fZ] at aJ;have D:j<size:=by rw[<-g4 m (bE aJ)];exact(bR.1 a2).1
     have e1:r*size+j=h*size+((r-h)*size+j):=by rw[th];have:=dA size (O:h<=r);omega
     have hlt:(r-h)*size+j<(c+1)*size:=mF O D;rw[e1,gG (by rw[dE,V,F];omega),gF O,V,Nat.add_sub_cancel_left] at a3;have h9:=(I _ _ a3).1;exact⟨l+(r-h),m,aJ,a2,by rw[dp,pP];exact h9⟩
    have adv:(rows.take h++(rows.drop l).take (c+1)).length=h+(c+1):=by rw[dE,U,W]
    rw[gF O,adv,fZ,show h+(c+1)+(r-(h+(c+1)))=r by omega] at aJ;have D:j<size:=by rw[<-g4 m (bE aJ)];exact(bR.1 a2).1
    have iN:h*size+(c+1)*size<=r*size+j:=by
     have:=dA size (O:h+(c+1)<=r);rw[dp] at this;omega
    rw[gF (by rw[dE,V,F];omega),dE,V,F,fZ,show h*size+(c+1)*size+(r*size+j-(h*size+(c+1)*size))=r*size+j by omega] at a3;exact⟨r,m,aJ,a2,by simpa using a3⟩
   rw[Y] at *; cases h0
  omega
theorem UE(k L:Nat)(x y:Operand)(e W:TypeId)(p:List (List T))(X: ∀i,d=some i->Nat.blt i K.nt=true)(Y:s.get x= .bc k gen size 0 L)(f:dC (s.get y) (.t (.aD [])))(j:s.H k=some (.arr W gen size p))
  (R:K.P.underlying t=some (.slice e)) (v:cd K.P e u z size bytes) (E:0<size):
  dT K ⟨d,.call {callee:= .builtin .append,args:= #[x,y],argTypes:= #[t,t]},ty,pos,af,g⟩ s (s.put d (.bc k gen size 0 L)):=by
 intro M a w next Q D F
 have h:=D.get x;rw[Y] at h;have G:=f _ _ _ _ (D.get y);have I:=(D.heap k _ j).2;obtain⟨q,N⟩:=jq I;obtain⟨_,i,r,V,qs,uC⟩:=id v;unfold Oper.wp;obtain⟨m,cap,A⟩: ∃m cap,a.eval y= .slice m 0 cap:=by
  rcases Ff G (Rows.nil size) E with (⟨B,_⟩|⟨b,o,c,_,B,_⟩)|⟨_,m,cap,B⟩
  ·exact⟨none,0,B⟩
  ·exact⟨_,c,B⟩
  exact⟨m,cap,B⟩
 have C:(execOp a.eval ⟨d,.call {callee:= .builtin .append,args:= #[x,y],argTypes:= #[t,t]},ty,pos,af,g⟩).run K.P w= .ok (.value (a.eval x)) w:=by
  rcases fa h N with ⟨U,b,n,hD,l,_,_,_,_,cE,_⟩|⟨_,_,_,l⟩
  ·cases m<;>simp[execOp,resolve,invoke,builtin,l,A,Builtin.append_,run_underlying R,sizeOf,typeInfo,r,Builtin.lenOf,Builtin.firstCells,cE,storeCells,loadCells,loadCellsFrom]
  cases m<;>simp[execOp,resolve,invoke,builtin,l,A,Builtin.append_,run_underlying R,sizeOf,typeInfo,r,Builtin.lenOf,Builtin.firstCells,loadCells,loadCellsFrom]
 rw[C];exact F M _ w (D.put d X h)
theorem Xv{size off:Nat}{a c:List (List T)}{us cs:List Value}(w:off+m<=a.length)(B:a.length*size<=us.length)(p:cs.length=m*size)(C:m<=c.length)(q: ∀e,e∈a->e.length=size)(l: ∀e,e∈c->e.length=size){R:T->Value->Prop}
  (r: ∀(i j:Nat) (e:List T) (x:T) (u:Value),a[i]? =some e->e[j]? =some x->us[i*size+j]? =some u->R x u)
  (y: ∀(i j:Nat) (e:List T) (x:T) (u:Value),c[i]? =some e->e[j]? =some x->cs[i*size+j]? =some u->R x u):
  ∀(i j:Nat) (e:List T) (x:T) (u:Value),(a.take off++c.take m++a.drop (off+m))[i]? =some e->e[j]? =some x->(us.take (off*size)++cs++us.drop (off*size+cs.length))[i*size+j]? =some u->R x u:=by
 have D:off*size+m*size<=a.length*size:=by rw[<-dp];exact dA _ w
 have A:=vR (us.take (off*size)) cs [] (rows:=a.take off) (news:=c.take m) (n:=off) (size:=size) (by rw[cG];omega) (by rw[cG];omega) (by rw[cG,p];congr 1;omega)
  (λe h=>q e (gh h)) (λe h=>l e (gh h)) (R:=R)
  (λk j e x u aJ a2 a3=>by
   rw[ft] at aJ a3;split at aJ
   ·split at a3
    ·exact r k j e x u aJ a2 a3
    cases a3
   cases aJ)
  (λk j e x u aJ a2 a3=>by
   rw[ft] at aJ;split at aJ
   ·exact y k j e x u aJ a2 a3
   cases aJ)
 have o:(us.drop (off*size+cs.length)).length=us.length-(off+m)*size:=by rw[fs,p,dp]
 have fG:=vR (us.take (off*size)++cs) ((us.drop (off*size+cs.length)).take ((a.length-(off+m))*size)) ((us.drop (off*size+cs.length)).drop ((a.length-(off+m))*size)) (rows:=a.take off++c.take m) (news:=a.drop (off+m)) (n:=off+m) (size:=size)
  (by rw[dE,cG,cG];omega) (by rw[dE,cG,p,dp];omega)
  (by
   rw[cG,o,fs]
   have:(a.length-(off+m))*size=a.length*size-(off+m)*size:=th _ _ _;omega)
  (λe h=>by
   rcases d'.1 h with h|h
   ·exact q e (gh h)
   exact l e (gh h)) (λe h=>q e (eY h)) (R:=R) (λk j e x u aJ a2 a3=>A k j e x u aJ a2 (by simpa using a3))
  (λk j e x u aJ a2 a3=>by
   rw[fZ] at aJ;rw[ft] at a3;split at a3
   ·rw[fZ,p] at a3;refine r (off+m+k) j e x u aJ a2 ?_;rw[dp,dp,pP];exact a3
   cases a3)
 intro i j e x u aJ a2 a3;refine fG i j e x u aJ a2 ?_;rw[iy _ (List.take _ _),q9];exact a3
theorem aaN(x y:Operand)(X c len:Nat)(e e' l3:TypeId)(rows k:List (List T))(cv: ∀i,d=some i->Nat.blt i K.nt=true)(hx:s.get x= .bc X gen size c len)(hy:dC (s.get y) (.t (.aD k)))(hH:s.H X=some (.arr e' gen size rows))(e6:K.P.underlying t=some (.slice e))
  (he:cd K.P e u z size bytes) (hp:0<size) (Y: ∀r,r∈k->r.length=size) (cE:c+len<=rows.length):
  dT K ⟨d,.call {callee:= .builtin .copy,args:= #[x,y],argTypes:= #[t,l3]},ty,pos,af,g⟩ s
   (({s with H:=aU s.H X (some (.arr e' gen size (rows.take c++k.take (Nat.min k.length len)++rows.drop (c+Nat.min k.length len))))}:S).put d (.t (.int .i64 (Nat.min k.length len:Nat)))):=by
 intro β a w next Q b7 hk
 have f:=b7.get x;rw[hx] at f;have lT:=hy _ _ _ _ (b7.get y);have E:=(b7.heap X _ hH).2;obtain⟨q,M⟩:=jq E;obtain⟨_,i,mv,hi2,qs,uC⟩:=he;unfold Oper.wp;have aec: ∃C c1,a.eval x= .slice C len c1:=by
  rcases fa f M with ⟨D,b,n,hD,B,_⟩|⟨_,_,h0,B⟩
  ·exact⟨_,D,B⟩
  subst h0;exact⟨none,0,B⟩
 have L:=Ff lT Y hp;have aee: ∃IQ c2,a.eval y= .slice IQ k.length c2:=by
  rcases L with (⟨A,U⟩|⟨b,c,D,G,A,_⟩)|⟨U,iI,D,A⟩
  ·subst U;exact⟨none,0,A⟩
  ·exact⟨_,_,A⟩
  subst U;exact⟨iI,D,A⟩
 obtain⟨m,hm⟩: ∃m,m=Nat.min k.length len:=⟨_,rfl⟩
 rw[<-hm] at hk;by_cases N:m=0
 ·subst N;obtain⟨C,c1,B⟩:=aec;obtain⟨IQ,c2,A⟩:=aee;have F:(execOp a.eval ⟨d,.call {callee:= .builtin .copy,args:= #[x,y],argTypes:= #[t,l3]},ty,pos,af,g⟩).run K.P w= .ok (.value (goInt ((0:Nat):Int))) w:=by
   cases C<;>cases IQ<;>simp[execOp,resolve,invoke,builtin,B,A,Builtin.copy_,run_underlying e6,sizeOf,typeInfo,mv,Builtin.lenOf,Builtin.firstCells,<-hm,loadCells,loadCellsFrom,storeCells]
  rw[F]
  have:rows.take c++k.take 0++rows.drop (c+0)=rows:=aV
  rw[this] at hk;exact hk β _ _ ((b7.yr X _ hH).put d cv (.t _ _ (.int _ _)))
 have agx:m<=len:=by rw[hm];exact Nat.min_le_right _ _
 have o:m<=k.length:=by rw[hm];exact Nat.min_le_left _ _
 rcases L with (⟨_,U⟩|⟨cu,afl,BD,W,A,oj,xL,la,hwr⟩)|⟨U,_⟩
 ·subst U;simp at o;exact bB o N
 ·rcases fa f M with ⟨D,b,n,hD,B,jI,hw,hs,U,pa,mw⟩|⟨_,_,h0,_⟩
  ·subst jI;rcases E.2 with ⟨h1,_⟩|⟨V,G,h1,h2,h3,h4,h5⟩
   ·rw[M] at h1;cases h1
   rw[M] at h1;cases h1;have I:(W.take (m*size)).length=m*size:=by rw[cG,oj];have:=dA size o;omega
   have nu:c*size+m*size<=G.size:=by
    have:(c+m)*size<=rows.length*size:=dA _ O;rw[dp] at this;omega
   have PQ:=run_loadCells_list (P:=K.P) w ⟨cu,afl,none⟩ (W.take (m*size)) (λj y hj=>by
    rw[jh];rw[ft] at hj;split at hj
    ·exact xL j y hj
    cases hj)
   have pe:=run_storeCells_at K.P b (c*size) e' (W.take (m*size)) 0 G w h2 (by rw[I];omega) λv bJ=>la v (gh bJ);simp only[Nat.add_zero] at pe;rw[I] at PQ;have F:(execOp a.eval ⟨d,.call {callee:= .builtin .copy,args:= #[x,y],argTypes:= #[t,l3]},ty,pos,af,g⟩).run K.P w= .ok (.value (goInt (m:Int))) (w.setRow b (G.toList.take (c*size)++W.take (m*size)++G.toList.drop (c*size+(W.take (m*size)).length)).toArray):=by
    simp[execOp,resolve,invoke,builtin,B,A,Builtin.copy_,run_underlying e6,sizeOf,typeInfo,mv,qs,Builtin.lenOf,Builtin.firstCells,<-hm,PQ,pe]
   rw[F];have k':(G.toList.take (c*size)++W.take (m*size)++G.toList.drop (c*size+(W.take (m*size)).length)).toArray.size=G.size:=by
    have h2: ∀l:List Value,l.toArray.size=l.length:=λl=>aV
    rw[h2];simp only[List.length_append,I,List.length_take,List.length_drop,Array.length_toList];omega
   have hlen:(rows.take c++k.take m++rows.drop (c+m)).length=rows.length:=bQ
   have kD:own K β s.H b:= .inr ⟨X,by rw[hH];simp,.inl ⟨_,M⟩⟩;refine hk β _ _ (Rel.put (Rel.setRow b7 X b (.inl ⟨_,M⟩) G e' h2 _ k' (.arr e' gen size (rows.take c++k.take m++rows.drop (c+m))) (by rw[hH];simp)
    ⟨E.1,Or.inr ⟨b,_,M,setRow_heap _ _ _ _ _ _ h2,by rw[k',hlen];exact h3,λr p=>?_,λi j r x u aJ a2 a3=>?_⟩⟩) d cv (.t _ _ (.int _ _)))
   ·rw[d',d'] at p;rcases p with (p|p)|p
    ·exact h4 r (gh p)
    ·exact Y r (gh p)
    exact h4 r (eY p)
   have h9:=Xv (off:=c) (m:=m) (us:=G.toList) (cs:=W.take (m*size)) O (by simpa using h3) I o h4 Y (R:=λx u=>cX w (own K β s.H) x u) (λi j r x u cU cu V=>h5 i j r x u cU cu (by simpa using V))
    (λi j r x u cU cu V=>by
     rw[ft] at V;split at V
     ·exact hwr i j r x u cU cu V
     cases V) i j r x u aJ a2 (by simpa using a3)
   refine h9.mono ⟨rfl,rfl,rfl,aV,λkk _ hx=>setRow_other _ _ _ _ λe0=>hx ?_⟩ λ_ _ h=>h;subst e0;exact kD
  omega
 subst U;simp at o;exact bB o N
end steps
end
variable {P:Program}{r:List Nat}{o:Oper}{b:S}{c l n M I U:List cr}{k gen size:Nat}{e:cS}{e':E}{t:TypeId}{x y:Operand}{u:Nat->Bool}{m ma:List dh}{i:Array Operand}{z:Value}
theorem b9.sub{H r:Nat->Option E}{a:List V}{v:V}(h:b9 P H o a v)(c: ∀k e,H k=some e->r k=some e):b9 P r o a v:=
 λβ w X i l m=>h β w X i (λid e n=>l id e (c id e n)) m
theorem dT.Jd{K:Ctx}{s c:S}(h:dT K o s b)(m: ∀β a w,Rel K β b a w->Rel K β c a w):dT K o s c:=
 λβ a w next Q n p=>h β a w next Q n λe k l i=>p e k l (m e k l i)
theorem Zz{K:Ctx}{β:Map}{H:Nat->Option E}{e:E}(l:H k=some e):own K β (aU H k (some e'))=own K β H:=by
 funext b;apply propext;constructor
 ·rintro(h|⟨id,i,a⟩)
  ·exact .inl h
  by_cases c:id=k
  ·subst c;exact .inr ⟨id,by rw[l];simp,a⟩
  rw[bX _ _ _ _ c] at i;exact .inr ⟨id,i,a⟩
 rintro(h|⟨id,i,a⟩)
 ·exact .inl h
 by_cases c:id=k
 ·subst c;exact .inr ⟨id,by rw[bW];simp,a⟩
 exact .inr ⟨id,by rw[bX _ _ _ _ c];exact i,a⟩
theorem Rel.IH{K:Ctx}{β:Map}{s:S}{a:Act}{w:World}(h:Rel K β s a w)(k:Nat){e:E}(m:s.H k=some e)(p: ∀X,cH β w X k e->cH β w X k e'):Rel K β {s with H:=aU s.H k (some e')} a w:=by
 have eu:=Zz (K:=K) (β:=β) (e':=e') m;refine {h with heap:= ?_,cZ:= ?_}
 ·intro id l n;show _/\cH β w (own K β (aU s.H k (some e'))) id l;rw[eu];by_cases o:id=k
  ·subst o;have c:aU s.H id (some e') id=some l:=n;rw[bW] at c;cases c;obtain⟨q,r⟩:=h.heap id e m;exact⟨q,p _ r⟩
  have c:aU s.H k (some e') id=some l:=n;rw[bX _ _ _ _ o] at c;exact h.heap id l c
 intro i;show bn β w (own K β (aU s.H k (some e'))) _ _;rw[eu];exact h.cZ i
section
variable {K:Ctx} {s:S} {d:Option Tmp} {ty:TypeId} {pos:String} {af:Array Edge} {g:Option (Nat×Bool)}
theorem NU{f:FuncId}{c:Operand}{k:Array Operand}{l:Array TypeId}(m:List V)(args:List V)(r:V)
  (F:ji K.P f) (I:s.get c= .fn f m) (L: ∀i,d=some i->Nat.blt i K.nt=true) (R:fr (k.toList.map s.get++m) args) (U:gz gx args=true) (h:Ek K.P K.G f args r):
  dT K ⟨d,.call {callee:= .value c,args:=k,argTypes:=l},ty,pos,af,g⟩ s (s.put d r):=by
 obtain⟨D,W,Y,b⟩:=F;intro β a w next Q o j
 have y:D.name≠ "runtime.NumGoroutine" :=by simpa using Y
 have z:D.body≠none:=by intro e;simp[e] at b
 obtain⟨us,A,B⟩:=(I▸o.get c).He;have p:(execOp a.eval ⟨d,.call {callee:= .value c,args:=k,argTypes:=l},ty,pos,af,g⟩).run K.P w= .ok (.enter f (k.map a.eval++us)) w:=by
  simp[execOp,resolve,Deferred.ofValue,A,invoke,callFunc,W,y,z]
 unfold Oper.wp;rw[p,Oper.upon_enter];have n:=(dw.le ((o.oh k.toList).app B) R).It U;have q:=h w (own K β s.H) _ o.BH o.Iw n;have t:(List.map a.eval k.toList++us.toList).toArray=k.map a.eval++us:=by rw[<-vD,<-Array.toList_append]
 rw[t] at q;refine q.mono ?_;rintro e v ⟨u,rfl,x,M⟩;exact j β _ v ((o.grow x).put d L (M.any λ_ h=>h))
theorem rf{s:S}{d:Option Tmp}{v:V}{e:E}:cS.app ⟨fb d v,[(k,some e)],[(k,true)]⟩ s=(s.new k e).put d v:=by cases d<;>rfl
theorem oH{s:S}{d:Option Tmp}{v:V}:cS.app ⟨fb d v,[],[]⟩ s=s.put d v:=by cases d<;>rfl
theorem Yp{v:V}(a: ∀k,u k=false->s.u k=false)(i:j4 K.nt d=true)(n:s.get x=v)
  (h:tW d u v l=some (e,m,c)):dT K ⟨d,.box t x,ty,pos,af,g⟩ s (e.app s):=by
 unfold tW at h;split at h
 ·split at h
  ·rename_i o p;cases h;rw[rf];exact abi _ (a _ o) x v (gY i) n p
  cases h
 cases h
theorem Y2{H:Nat->Option E}(x:Operand)(v:V)(i:List T)(n:v.val=true)(k:v.cs=i.map .t):Bf P H ⟨d,.box t x,ty,pos,af,g⟩ [v] (.aQ i):=by
 intro β w X a _ o p;obtain⟨l,q⟩:=(show bn β w X v (a x) from p.1).cells n;have c:(execOp a ⟨d,.box t x,ty,pos,af,g⟩).run P w= .ok (.value (.pointer (some ⟨w.heap.size,0,none⟩))) (w.alloc (.cells (a x).cells t)):=by
  simp[execOp,Instr.box,newVar,newRow]
 refine⟨_,_,c,Ext.alloc _ _ _,?_⟩;refine .aQ i w.heap.size 0 (λj=>(a x).cells.getD j undef) aV (λh=>by have:=o _ h;omega) (λj e=>?_) λj y m=>?_
 ·rw[dt,World.cell?_alloc_new]
  have:j<(a x).cells.size:=by rw[l,k];simpa using e
  simp[this]
 have e:j<(a x).cells.size:=by rw[l,k,c5];exact(bR.1 m).1
 have r:=q j (.t y) (a x).cells[j] (by rw[k,ey,m];rfl) (by simp[e]);cases r with
 |t _ _ h=>
  have:(a x).cells.getD j undef=(a x).cells[j]:=by simp[e]
  rw[this];exact h.mono (Ext.alloc X _ _) λ_ _ h=>h
theorem Xg{v:V}(a:j4 K.nt d=true)(i:s.get x=v)
  (h:Gj d v l=some (e,m,c)):dT K ⟨d,.box t x,ty,pos,af,g⟩ s (e.app s):=by
 unfold Gj at h;split at h
 ·split at h
  ·rename_i k n o;cases h;rw[oH];exact Jl (vals:=[ny v]) (gY a) ⟨i▸tD _,trivial⟩ (Y2 x _ k n (oF o))
  cases h
 cases h
theorem VB{a:List (Nat×cj)}(n:dU K.P a){i:cj}(o:dz a t=some i)(p: ∀k,u k=false->s.u k=false)(q:j4 K.nt d=true)
  (h:tW d u (gX i.z) l=some (e,m,c)):dT K ⟨d,.alloc t,ty,pos,af,g⟩ s (e.app s):=by
 unfold tW at h;split at h
 ·split at h
  ·rename_i r x;cases h;rw[rf];obtain⟨A,y,_⟩:=n _ _ o;exact ZL _ (p _ r) (gY q) y x
  cases h
 cases h
theorem VM{l:List (Nat×cj)}(U:dU K.P l){C:dM}(W:C.cc=l){H:Nat->Option E}{a v:V}(G: ∀k e,H k=some e->s.H k=some e)
  (I:s.get x=a) (L:s.get y=v) (h:F1 C t H a v n=some (e,m,c)) (p:cf m):dT K ⟨none,.store t x y,ty,pos,af,g⟩ s (e.app s):=by
 subst W;unfold F1 at h;split at h
 ·cases h
 rename_i i Y;obtain⟨N,Q,_⟩:=U _ _ Y;split at h
 ·split at h
  ·rename_i cs q;split at h
   ·rename_i z A B b;cases h;exact ZJ _ _ _ _ cs v I L (G _ _ q) Q z A B b
   cases h
  cases h
 ·split at h
  ·rename_i f R j o u r D n q F;split at h
   ·rename_i z A B;cases h;obtain⟨rfl,rfl,M,rfl,_⟩:=p;exact VE x y _ _ _ f o r u I (v:=ny v) (by rw[L];exact tD v) (oF F) z (G _ _ q) Q M (cN A) (ea B)
   cases h
  cases h
 cases h
theorem Ar{k i n:Nat}: ∀{m:List (Nat×Nat×V)},cf (tX k i n m)-> ∀e c l,(e,c,l)∈m->i<=c->c<i+n->e=k
 |h::m,a,e,c,l,hm,o,p=>by
  simp only[tX] at a;rcases dP.1 hm with rfl|hm
  ·have r:Nat.ble i c=true:=Nat.ble_eq_true_of_le o;have x:Nat.blt c (i+n)=true:=by simpa[Nat.blt_eq] using p
   simp only[r,x,Bool.and_self,cond_true] at a;exact a.1
  cases q:(Nat.ble i h.2.1&&Nat.blt h.2.1 (i+n)) with
  |true=>rw[q] at a;exact Ar a.2 e c l hm o p
  |false=>rw[q] at a;exact Ar a e c l hm o p
theorem As{k off n:Nat}: ∀{l:List (Nat×Nat×V)},cf (tY k off n l)-> ∀e c i,(e,c,i)∈l->off<=c->c<off+n->e≠k
 | [],_,_,_,_,hm,_,_=>by cases hm
 |h::l,a,e,c,i,hm,m,o=>by
  unfold tY at a;rcases dP.1 hm with rfl|hm
  ·have q:Nat.ble off c=true:=Nat.ble_eq_true_of_le m;have r:Nat.blt c (off+n)=true:=by simpa[Nat.blt_eq] using o
   simp only[q,r,Bool.and_self,cond_true] at a;exact a.1
  cases p:(Nat.ble off h.2.1&&Nat.blt h.2.1 (off+n)) with
  |true=>rw[p] at a;exact As a.2 e c i hm m o
  |false=>rw[p] at a;exact As a e c i hm m o
theorem UP{C:dM}(kC:dU K.P C.cc){H:Nat->Option E}{a v:V}{N:List cr}(hH: ∀k e,H k=some e->s.H k=some e)
  (D:s.get x=a) (hy:s.get y=v) (h:Ft C t H a v M=some (e,ma,N)) (I:cf ma):dT K ⟨none,.store t x y,ty,pos,af,g⟩ s (e.app s):=by
 unfold Ft at h;split at h
 ·rename_i i id gen sz k F r M T;obtain⟨ahq,e6,_⟩:=kC _ _ T;split at h
  ·rename_i fq m L p eu xB;split at h
   ·rename_i l o ij;cases h;simp only[Bool.and_eq_true] at o;obtain⟨rfl,eM,b7,dj⟩:=I;obtain⟨lp,Q⟩:=cf.app dj;obtain⟨cU,cu⟩:=yY ij lp;refine TQ x y _ _ _ fq m p r v eu D hy o.1 o.2.1 (hH _ _ xB) eM e6 (cN o.2.2.1) (by simpa[Nat.blt_eq] using o.2.2.2.2) b7 (ea o.2.2.2.1) (Ar Q) λj hj=>?_;have G:=br (show j<(l.map (·.2)).length by simp[cU];exact hj);exact⟨_,cu j _ G⟩
   cases h
  cases h
 ·rename_i i id gen sz k F q n r M T;obtain⟨ahq,e6,_⟩:=kC _ _ T;split at h
  ·rename_i fq m L p eu xB;split at h
   ·rename_i l o ij;cases h;simp only[Bool.and_eq_true] at o;obtain⟨rfl,eM,b7,dj⟩:=I;obtain⟨lp,Q⟩:=cf.app dj;obtain⟨Q,py⟩:=cf.app Q;obtain⟨py,Qp⟩:=cf.app py;obtain⟨cU,cu⟩:=yY ij lp;have R:=cN o.2.2.1;have B: ∀x,x∈(eu.drop q.toNat).take n->x∈eu:=λx D=>eY (gh D);have A: ∀x,x∈eu->x∈eu.take q.toNat\/x∈(eu.drop q.toNat).take n\/x∈(eu.drop q.toNat).drop n:=λx D=>by
     rw[<-q9 q.toNat eu,d'] at D;rcases D with h|h
     ·exact .inl h
     rw[<-q9 n (eu.drop q.toNat),d'] at h;exact .inr h
    refine Tv x y _ _ _ fq m p r v eu D hy o.1 o.2.1 (hH _ _ xB) eM e6 R (by simpa[Nat.blt_eq] using o.2.2.2.2) b7 (ea o.2.2.2.1) (λf U u hm=>?_) (λf U W hm=>?_) λj hj=>?_
    ·rcases d'.1 hm with c|c
     ·exact⟨u,gh c,λz=>bB z.1 (As py f U u c z.2.1 z.2.2),λ_=>rfl⟩
     rcases d'.1 c with c|c
     ·obtain⟨W,aJ,a2,a3⟩:=zu c;refine⟨W,B _ aJ,λz=>?_,λz=>a3 λY=>z ⟨Ar Q f U W aJ Y.1 O,Y.1,O⟩⟩;have b:=br (O:U-F<v.cs.length);rw[a2 z.2.1 _ b];exact b
     exact⟨u,eY (eY c),λz=>bB z.1 (As Qp f U u c z.2.1 z.2.2),λ_=>rfl⟩
    ·rcases A _ hm with c|c|c
     ·exact⟨W,d'.2 (.inl c)⟩
     ·obtain⟨v1,h2⟩:=Aw (off:=F) (vs:=v.cs) c;exact⟨v1,d'.2 (.inr (d'.2 (.inl h2)))⟩
     exact⟨W,d'.2 (.inr (d'.2 (.inr c)))⟩
    have G:=br (show j<(l.map (·.2)).length by simp[cU];exact hj);exact⟨_,B _ (cu j _ G)⟩
   cases h
  cases h
 cases h
theorem dT.afV{K:Ctx}{s c:S}(h:dT K o s b)(p:b.le K c):dT K o s c:=
 λβ a w next Q q r=>h β a w next Q q λi m n k=>let ⟨e,l⟩:=p i m n k;r e m n l
theorem LG{z:List T}: ∀{l:List (Nat×Nat)} {j m:Nat},wU z l=true->tQ l j=some m->z[j]? =some .fo
 |p::l,j,m,h,a=>by
  simp only[wU,Bool.and_eq_true] at h;simp only[tQ] at a;cases c:Nat.beq p.1 j with
  |true=>
   rw[<-cN c];have e:=h.1;split at e
   ·assumption
   cases e
  |false=>rw[c] at a;exact LG h.2 a
theorem Wi{K:Ctx}{s:S}(k:Nat){L n:Nat}{z:List T}(e:List dQ)(m:Nat)(B:s.H k=some (.arr t gen L (List.replicate n z)))(r:(aO e m).ty=t)(D:(aO e m).size=L)
  (Y:wU z (aO e m).bm=true):s.le K {s with H:=aU s.H k (some (.a8 e m gen (List.replicate n (z.map iS)) []))}:=by
 intro β a w h;refine⟨_,h.drop k (.a8 e m gen (List.replicate n (z.map iS)) []) (by rw[B];simp) ?_⟩;have l:=(h.heap k _ B).2;subst r;subst D;refine⟨l.1,?_⟩;have o: ∀b,own K (β.drop k) (aU s.H k (some (.a8 e m gen (List.replicate n (z.map iS)) []))) b->own K β s.H b:=by
  rintro b (f|⟨id,r,D⟩)
  ·exact .inl f
  refine .inr ⟨id,λF=>?_,oE D⟩;by_cases R:id=k
  ·subst R;rw[B] at F;cases F
  rw[bX _ _ _ _ R] at r;exact r F
 rcases l.2 with ⟨aJ,a2⟩|⟨b,v,aJ,a2,a3,a4,a5⟩
 ·have:n=0:=by simpa using a2
  subst this;exact .inl ⟨aJ,rfl,λc p=>p.1 rfl⟩
 refine .inr ⟨b,v,λ_ _ _=>False,aJ,a2,by simpa using a3,λG M=>?_,λi j G x u A U N=>Cell.of ?_,λ_ _ _ h=>h.elim,λ_ _ _ _ _ h=>h.elim,λc=>⟨λp=>bB rfl p.1,λ⟨_,_,p⟩=>p.elim⟩⟩
 ·obtain⟨P,rfl⟩:=pT.1 M;rw[c5];exact a4 z (pT.2 ⟨P,rfl⟩)
 rw[td] at A;split at A
 ·rename_i I;cases A;rw[ey] at U;obtain⟨y,W,rfl⟩:=Option.map_eq_some_iff.1 U;have q:=(a5 i j z y u (by rw[td,a1 I]) W N).mono (Ext.refl _ _) λb _=>o b;cases Q:(aO e m).ek j with
  |none=>exact .jj _ _ _ q.x6 (λ_ h=>h)
  |some V=>
   have:=LG Y Q;rw[W] at this;cases this;cases q;exact .nil _ _ λ_ h=>h
 cases A
theorem Xa{C:dM}(kC:dU K.P C.cc){v w:V}{f:List cr}(I: ∀k,u k=false->s.u k=false)(cv:j4 K.nt d=true)
  (hx:s.get x=v) (hy:s.get y=w) (h:Gq C d t u v w f=some (e,ma,M)) (L:cf ma):dT K ⟨d,.makeSlice t x y,ty,pos,af,g⟩ s (e.app s):=by
 unfold Gq at h;split at h
 ·cases h
 rename_i i l;split at h
 ·rename_i o N;have e6:K.P.underlying t=some (.slice o):=(kC _ _ l).iw.2.2.2 o N;split at h
  ·cases h
  rename_i j Q;obtain⟨qJ,he,_⟩:=kC _ _ Q;split at h
  ·rename_i n m k R f p r;split at h
   ·rename_i T U h3 z;cases h;obtain⟨hnm,A,B,_⟩:=L;obtain⟨mx,adD,rfl⟩:=pE A;have D:m=n:=O
    subst D;simp only[Bool.and_eq_true] at z;have c:=ea z.2;have W:m.toNat*j.bytes<=1000000000*200000:=nH O c;have bP:=je B;have Q:=Oh (K:=K) (s:=s) (d:=d) (ty:=ty) (pos:=pos) (af:=af) (g:=g) k (I _ T) x y o m.toNat p (gY cv) e6 he (by rw[hx,<-bP]) (by rw[hy,<-bP]) (oF r) U h3 z.1 O O;refine Q.Jd λβ a w b7=>?_;have hk:((s.new k (.arr o 1 j.size (List.replicate m.toNat p))).put d (.bc k 1 j.size 0 m.toNat)).H k=some (.arr o 1 j.size (List.replicate m.toNat p)):=by
     cases d<;>exact bW _ _ _
    have Y:=b7.IH k hk λX=>Zn;rw[rf,Df]
    have: ∀F G:E,({((s.new k F).put d (.bc k 1 j.size 0 m.toNat)) with H:=aU ((s.new k F).put d (.bc k 1 j.size 0 m.toNat)).H k (some G)}:S)=(s.new k G).put d (.bc k 1 j.size 0 m.toNat):=by
     intro F G;have I: ∀a b:Option E,aU (aU s.H k a) k b=aU s.H k b:=by
      intro a b;funext i;by_cases l:i=k
      ·subst l;rw[bW,bW]
      rw[bX _ _ _ _ l,bX _ _ _ _ l,bX _ _ _ _ l]
     cases d<;>simp only[S.put,S.new,I]
    rw[this] at Y;exact Y
   cases h
  ·rename_i n m k ka fq q R f p r;split at h
   ·rename_i T U h3 z;cases h;obtain⟨ad7,k',hnm,A,B,_⟩:=L;obtain⟨mx,adD,rfl⟩:=pE A;have D:m=n:=O
    subst D;simp only[Bool.and_eq_true] at U z;have c:=ea z.2;have W:m.toNat*j.bytes<=1000000000*200000:=nH O c;have bP:=je B;have Q:=Oh (K:=K) (s:=s) (d:=d) (ty:=ty) (pos:=pos) (af:=af) (g:=g) k (I _ T) x y o m.toNat p (gY cv) e6 he (by rw[hx,<-bP]) (by rw[hy,<-bP]) (oF r) U.1 h3 z.1 O O;have hk:((s.new k (.arr o 1 j.size (List.replicate m.toNat p))).put d (.bc k 1 j.size 0 m.toNat)).H k=some (.arr o 1 j.size (List.replicate m.toNat p)):=by
     cases d<;>exact bW _ _ _
    have cE:=Wi (K:=K) k fq q hk ad7 k' U.2;rw[rf,Df]
    have: ∀F G:E,({((s.new k F).put d (.bc k 1 j.size 0 m.toNat)) with H:=aU ((s.new k F).put d (.bc k 1 j.size 0 m.toNat)).H k (some G)}:S)=(s.new k G).put d (.bc k 1 j.size 0 m.toNat):=by
     intro F G;have I: ∀a b:Option E,aU (aU s.H k a) k b=aU s.H k b:=by
      intro a b;funext i;by_cases l:i=k
      ·subst l;rw[bW,bW]
      rw[bX _ _ _ _ l,bX _ _ _ _ l,bX _ _ _ _ l]
     cases d<;>simp only[S.put,S.new,I]
    rw[this] at cE;exact Q.afV cE
   cases h
  cases h
 cases h
theorem UB{C:dM}(F:dU K.P C.cc)(_hn0:C.c'=K.c'){G:TypeId}{H:Nat->Option E}{v w:V}{o:List cr}{L:List dh}(Y: ∀k e,H k=some e->s.H k=some e)(b:j4 K.nt d=true)
  (f:s.get x=v) (u:s.get y=w) (h:FJ C d t G H v w I=some (e,L,o)) (p:cf L):dT K ⟨d,.call {callee:= .builtin .append,args:= #[x,y],argTypes:= #[t,G]},ty,pos,af,g⟩ s (e.app s):=by
 unfold FJ at h;split at h
 ·cases h
 rename_i i M;split at h
 ·rename_i Q q;have N:K.P.underlying t=some (.slice Q):=(F _ _ M).iw.2.2.2 Q q;split at h
  ·cases h
  rename_i j r;obtain⟨qJ,T,_⟩:=F _ _ r;split at h
  ·rename_i k gen U off len a R I hw;split at h
   ·rename_i e' l z c xB;split at h
    ·rename_i h1 n A;cases h;obtain⟨rfl,rfl,rfl,rfl,m,B,D,_⟩:=p;obtain⟨a',rfl⟩:=vW m;simp only[Bool.and_eq_true] at n A;have e1:=cN A.1;have e2:=cN A.2;have mo:=cN h1;subst e1;subst e2;subst mo;have W:(c.length+a.length)*j.bytes<=1000000000*140000:=nH a' (ea n.2.2);have r:=YK (K:=K) (s:=s) (d:=d) (ty:=ty) (pos:=pos) (af:=af) (g:=g) (gen:=l) (size:=j.size) k x y e' c a (gY b) f (by rw[u,<-hw];exact tD w) (Y _ _ xB) N T n.1 n.2.1 B D O O;rw[dE]
     have: ∀v e,cS.app ⟨fb d v,[(k,some e)],[]⟩ s=({s with H:=aU s.H k (some e)}:S).put d v:=by intro v e;cases d<;>rfl
     rw[this];exact r
    cases h
   cases h
  cases h
 cases h
theorem TO{C:dM}(kC:dU K.P C.cc){l3:TypeId}{H:Nat->Option E}{v w:V}{W:List cr}(L: ∀k e,H k=some e->s.H k=some e)(Y:j4 K.nt d=true)
  (b:s.get x=v) (f:s.get y=w) (h:EO C d t l3 H v w U=some (e,ma,W)) (p:cf ma):dT K ⟨d,.call {callee:= .builtin .append,args:= #[x,y],argTypes:= #[t,l3]},ty,pos,af,g⟩ s (e.app s):=by
 unfold EO at h;split at h
 ·cases h
 rename_i i aH;split at h
 ·rename_i u M;have N:K.P.underlying t=some (.slice u):=(kC _ _ aH).iw.2.2.2 u M;split at h
  ·cases h
  rename_i j z;obtain⟨qJ,T,_⟩:=kC _ _ z;split at h
  ·rename_i k gen A off len ei g3 z3 ahH n3 R U;split at h
   ·rename_i fq m c a af3 m3 acB c' l adZ B D;split at h
    ·rename_i n o Q;cases h;obtain⟨rfl,rfl,rfl,rfl,uA,nr,rfl,rfl,h3,F,HX,BW,_⟩:=p;obtain⟨a',rfl⟩:=vW F;simp only[Bool.and_eq_true] at n o Q;have G:=cN n.1;have I:=cN n.2;have mo:=cN Q.1;subst G;subst I;subst mo;have hmul:(a.length+(c'::l).length)*j.bytes<=1000000000*140000:=nH a' (ea o.2.2);have z:=XE (K:=K) (s:=s) (d:=d) (ty:=ty) (pos:=pos) (af:=af) (g:=g) (gen:=c) (size:=j.size) k ei acB (l.length+1) x y u fq af3 m m3 a (c'::l) adZ (gY Y) b f (L _ _ B) (L _ _ D) h3 rfl N T o.1 uA nr HX BW (Nat.succ_pos _) Q.2.1 Q.2.2 O O;rw[dE]
     have: ∀v e,cS.app ⟨fb d v,[(k,some e)],[]⟩ s=({s with H:=aU s.H k (some e)}:S).put d v:=by intro v e;cases d<;>rfl
     rw[this];exact z
    cases h
   ·rename_i e' c q a Hc B D;split at h
    ·rename_i n o;cases h;obtain⟨rfl,rfl,rfl,rfl,r,adt,sj,rfl,_⟩:=p;simp only[Bool.and_eq_true] at n o;have G:=cN n.1;have I:=cN n.2;have xm:=cN o.1;have xn:=cN o.2.1;have hp:0<j.size:=by simpa[Nat.blt_eq] using o.2.2
     subst G;subst I;subst xm;subst xn;subst r;have z:=VF (K:=K) (s:=s) (d:=d) (ty:=ty) (pos:=pos) (af:=af) (g:=g) _ _ _ _ x y _ _ (gY Y) b f (L _ _ B) N T hp adt sj
     have: ∀v e,cS.app ⟨fb d v,[(ei,some e)],[]⟩ s=({s with H:=aU s.H ei (some e)}:S).put d v:=by intro v e;cases d<;>rfl
     rw[this];exact z
    cases h
   cases h
  ·rename_i k gen A off len U;split at h
   ·rename_i e' c q a B;split at h
    ·rename_i n o;cases h;obtain⟨rfl,rfl,r,_⟩:=p;simp only[Bool.and_eq_true] at n;have G:=cN n.1;have I:=cN o;have hp:0<j.size:=by simpa[Nat.blt_eq] using n.2
     subst G;subst I;subst r;rw[oH];exact UE (K:=K) (s:=s) (d:=d) (ty:=ty) (pos:=pos) (af:=af) (g:=g) _ _ x y _ _ _ (gY Y) b (dC.of_eq f) (L _ _ B) N T hp
    cases h
   cases h
  cases h
 cases h
theorem aba{v:V}{x:T}(h:yv v=some x):v= .t x:=by cases v<;>simp[yv] at h;subst h;rfl
theorem Kp{d:dQ}: ∀{j:Nat} {a:List V} {r:List T} {c:List (Nat×Nat×V)},v7 d j a=some (r,c)->r.length=a.length/\
  (∀i b v,(i,b,v)∈c->i=0/\ ∃k,b=j+k/\a[k]? =some v)/\(∀(k:Nat) x,r[k]? =some x->(∃v,(0,j+k,v)∈c)\/(d.ek (j+k)=none/\a[k]? =some (.t x)))
 |j,[],r,c,h=>by cases h;exact⟨rfl,λ_ _ _ h=>bB h List.not_mem_nil,λk x h=>by simp at h⟩
 |j,v::a,r,c,h=>by
  simp only[v7] at h;split at h
  ·cases h
  rename_i G n B;obtain⟨aJ,a2,a3⟩:=Kp B;have y: ∀i b dx,(i,b,dx)∈n->i=0/\ ∃k,b=j+k/\(v::a)[k]? =some dx:=λi b dx hm=>by
   obtain⟨D,k,I,F⟩:=a2 i b dx hm;exact⟨D,k+1,O,by simpa using F⟩
  split at h
  ·rename_i L z;cases A:v.one with
   |false=>rw[A] at h;cases h
   |true=>
    rw[A] at h;cases h;refine⟨by simp[aJ],λi b dx hm=>?_,λk x l=>?_⟩
    ·rcases dP.1 hm with e|hm
     ·cases e;exact⟨rfl,0,rfl,rfl⟩
     exact y i b dx hm
    cases k with
    |zero=>exact .inl ⟨v,eX⟩
    |succ k=>
     have:=a3 k x (by simpa using l);rw[show j+1+k=j+(k+1) by omega] at this;rcases this with ⟨dx,o⟩|⟨m,p⟩
     ·exact .inl ⟨dx,eA _ o⟩
     exact .inr ⟨m,by simpa using p⟩
  rename_i z;split at h
  ·rename_i Q q;cases h;refine⟨by simp[aJ],y,λk x l=>?_⟩;cases k with
   |zero=>simp at l;subst l;exact .inr ⟨z,by simp[aba q]⟩
   |succ k=>
    have:=a3 k x (by simpa using l);rw[show j+1+k=j+(k+1) by omega] at this;rcases this with m|⟨m,p⟩
    ·exact .inl m
    exact .inr ⟨m,by simpa using p⟩
  cases h
theorem aaL{u:TypeDesc}{q:Nat}(k:Nat)(hk:s.u k=false)(o:Array (Nat×Operand))(e:TypeId)(n M:List V)(A:List dQ)(m:Nat)(r:List T)(f:List (Nat×Nat×V))(cv: ∀i,d=some i->Nat.blt i K.nt=true)(B:fr ((o.toList.map (·.2)).map s.get) n)
  (hu:K.P.underlying t=some (.slice e)) (he:cd K.P e u z size q) (D:Nat.beq o.toList.length n.length=true) (hp:Nat.blt 0 size=true) (F:Nat.ble (1*size) 16777216=true)
  (ij:kP (λi=>some (i*size,size)) (List.replicate (1*size) .c4) ((o.toList.map (·.1)).zip n)=some M) (N:v7 (aO A m) 0 M=some (r,f)) (hcl:M.length=size) (uA:(aO A m).size=size) (nr:(aO A m).ty=e):
  dT K ⟨d,.buildSlice t 1 o,ty,pos,af,g⟩ s ((s.new k (.a8 A m 1 [r] f)).put d (.bc k 1 size 0 1)):=by
 have adN:0<size:=by simpa[Nat.blt_eq] using hp
 obtain⟨ya,ahk,ahl⟩:=Kp N;intro β a w next Q b7 hkk
 have Hs:dw β w (own K β s.H) n ((o.toList.map (·.2)).map a.eval):=(b7.oh _).le B;have pg:=vn a.eval o.toList;obtain⟨l,h1,h2⟩:=vU (β:=β) (w:=w) (X:=own K β s.H) (λi=>some (i*size,size)) (o.toList.map (·.1)) n _ (List.replicate (1*size) .c4)
  ((Array.range (1*size)).map ((if 1*size=0 then #[] else z.cells)[· %(if 1*size=0 then #[] else z.cells).size]!)) _ (Aq _ _ _ _ _ aV) Hs (by simpa using cN D) ij
 have G:(execOp a.eval ⟨d,.buildSlice t 1 o,ty,pos,af,g⟩).run K.P w= .ok (.value (.slice (some ⟨w.heap.size,0,none⟩) 1 1)) (w.alloc (.cells l e)):=by
  have I:(o.toList.map λx=>match x with|(i,x)=>(i,a.eval x))=(o.toList.map (·.1)).zip ((o.toList.map (·.2)).map a.eval):=by rw[<-pg]
  have a': ¬(1*size>2^24):=by have:=ea F;omega
  have h0: ¬1*size=0:=O
  simp only[execOp,Instr.buildSlice,Sem.run_bind,run_underlying hu,Result.andThen_ok,he.run_sizeOf,a',if_false,Array.toList_map];simp only[h0,if_false] at h1;simp only[h0,if_false,Sem.run_pure,Sem.run_bind,he.sT,Result.andThen_ok];rw[I,h1];rfl
 unfold Oper.wp;rw[G];have p:l.size=size:=by
  have h:=h2.1;rw[l5] at h;omega
 have L:=b7.Is k 1 hk l e (.a8 A m 1 [r] f) (λβ' ie w' hw pb R jJ=>⟨cQ _,Or.inr ⟨w.heap.size,l,λ_ _ _=>False,pb,by subst hw;rw[nr];exact jB _ _,by rw[p,uA];simp,λrow U=>by rw[mU.1 U,ya,hcl,uA],λi j row x y aJ a2 a3=>by
  have aH:=(bR.1 aJ).1;have HI:i=0:=by simpa using aH
  subst HI;simp at aJ;subst aJ;rw[gi,dt] at a3;refine⟨λv B=>⟨?_,λ_ h=>h⟩,λcJ=>?_⟩
  ·obtain⟨_,b1,W,I⟩:=ahk _ _ _ B;rw[dt] at W;subst W;exact R _ _ (h2.2 _ _ y I (by simpa using a3))
  rcases ahl j x a2 with ⟨v,B⟩|⟨W,I⟩
  ·rw[dt] at B;exact bB B (cJ v)
  rw[dt] at W;rw[W];have h6:=R _ _ (h2.2 _ _ y I (by simpa using a3));cases h6 with|t _ _ h=>exact .jj _ _ _ h λ_ h=>h,λ_ _ _ h=>h.elim,λ_ _ _ _ _ h=>h.elim,λc=>⟨λh=>bB h (jJ c),λ⟨_,_,h⟩=>h.elim⟩⟩⟩)
 have Y:(w.alloc (.cells l e)).heap.size=w.heap.size+1:=World.size_alloc ..;have ik:(w.alloc (.cells l e)).shape? w.heap.size=some (e,l.size):=by unfold World.shape?;rw[jB]
 have b:bn (β.put k (some (some w.heap.size,1))) (w.alloc (.cells l e)) (own K (β.put k (some (some w.heap.size,1))) (s.new k (.a8 A m 1 [r] f)).H) (.bc k 1 size 0 1)
   (.slice (some ⟨w.heap.size,0*size,none⟩) 1 1):= .bc k 1 size 0 1 1 w.heap.size l.size e (cQ _) (bW _ _ _) (Y▸mV _) ik (by rw[p];omega) (cQ _) (by unfold maxLen;omega)
 rw[gi] at b;exact hkk _ _ _ (L.put d cv b)
theorem Nv{n j:Nat}{v:V}: ∀{a:List V} {i:Nat},(n,j,v)∈p7 i a->j=0/\ ∃k,n=i+k/\a[k]? =some v
 |x::a,i,h=>by
  simp only[p7] at h;rcases dP.1 h with h|h
  ·cases h;exact⟨rfl,0,rfl,rfl⟩
  obtain⟨e,k,l,c⟩:=Nv h;exact⟨e,k+1,O,by simpa using c⟩
theorem Nu{v:V}: ∀{vs:List V} {i k:Nat},vs[k]? =some v->(i+k,0,v)∈p7 i vs
 |x::vs,i,0,h=>by
  simp at h;subst h;exact eX
 |x::vs,i,k+1,h=>by have:=Nu (i:=i+1) (k:=k) (vs:=vs) (by simpa using h);rw[show i+1+k=i+(k+1) by omega] at this;exact eA _ this
theorem aaM{u:TypeDesc}{l B:Nat}(k:Nat)(hk:s.u k=false)(n:Nat)(q:Array (Nat×Operand))(e:TypeId)(p D:List V)(F:List dQ)(m:Nat)(cv: ∀i,d=some i->Nat.blt i K.nt=true)(f:fr ((q.toList.map (·.2)).map s.get) p)
  (hu:K.P.underlying t=some (.slice e)) (he:cd K.P e u z l B) (G:Nat.beq q.toList.length p.length=true) (cJ:Nat.blt 0 n=true) (M:l=1) (I:Nat.ble (n*l) 16777216=true)
  (ij:kP (λi=>some (i*l,l)) (List.replicate (n*l) .c4) ((q.toList.map (·.1)).zip p)=some D) (hcl:D.length=n) (N:(aO F m).size=1) (nr:(aO F m).ty=e):
  dT K ⟨d,.buildSlice t n q,ty,pos,af,g⟩ s ((s.new k (.a8 F m 1 (List.replicate n [.aD []]) (p7 0 D))).put d (.bc k 1 1 0 n)):=by
 subst M;have L:0<n:=by simpa[Nat.blt_eq] using cJ
 intro β a w next Q b7 T
 have Hs:dw β w (own K β s.H) p ((q.toList.map (·.2)).map a.eval):=(b7.oh _).le f;have pg:=vn a.eval q.toList;obtain⟨o,h1,h2⟩:=vU (β:=β) (w:=w) (X:=own K β s.H) (λi=>some (i*1,1)) (q.toList.map (·.1)) p _ (List.replicate (n*1) .c4)
  ((Array.range (n*1)).map ((if n*1=0 then #[] else z.cells)[· %(if n*1=0 then #[] else z.cells).size]!)) _ (Aq _ _ _ _ _ aV) Hs (by simpa using cN G) ij
 have agl:=ea I;have R:(execOp a.eval ⟨d,.buildSlice t n q,ty,pos,af,g⟩).run K.P w= .ok (.value (.slice (some ⟨w.heap.size,0,none⟩) n n)) (w.alloc (.cells o e)):=by
  have e2:(q.toList.map λx=>match x with|(i,x)=>(i,a.eval x))=(q.toList.map (·.1)).zip ((q.toList.map (·.2)).map a.eval):=by rw[<-pg]
  have a': ¬(n*1>2^24):=O
  have h0: ¬n*1=0:=O
  simp only[execOp,Instr.buildSlice,Sem.run_bind,run_underlying hu,Result.andThen_ok,he.run_sizeOf,a',if_false,Array.toList_map];simp only[h0,if_false] at h1;simp only[h0,if_false,Sem.run_pure,Sem.run_bind,he.sT,Result.andThen_ok];rw[e2,h1];rfl
 unfold Oper.wp;rw[R];have r:o.size=n:=by
  have h:=h2.1;rw[l5] at h;omega
 have U:=b7.Is k 1 hk o e (.a8 F m 1 (List.replicate n [.aD []]) (p7 0 D)) (λβ' ie w' hw L k8 jJ=>⟨cQ _,Or.inr ⟨w.heap.size,o,λ_ _ _=>False,L,by subst hw;rw[nr];exact jB _ _,by rw[r,N];simp,λW A=>by rw[(pT.1 A).2,N];rfl,λi j W x y aJ a2 a3=>by
  have aH:=(bR.1 aJ).1;rw[Df] at aH;have A:W=[.aD []]:=(pT.1 (bE aJ)).2;subst A;have hj0:j=0:=by
   have:=(bR.1 a2).1;simpa using this
  subst hj0;rw[N,Nat.mul_one,oL] at a3;refine⟨λv f=>⟨?_,λ_ h=>h⟩,λsl=>?_⟩
  ·obtain⟨_,b1,e1,e2⟩:=Nv f;rw[dt] at e1;subst e1;exact k8 _ _ (h2.2 _ _ y e2 (by simpa using a3))
  have bP:=br (O:i<D.length)
  have:=Nu (i:=0) bP;rw[dt] at this;exact bB this (sl _),λ_ _ _ h=>h.elim,λ_ _ _ _ _ h=>h.elim,λc=>⟨λh=>bB h (jJ c),λ⟨_,_,h⟩=>h.elim⟩⟩⟩)
 have Y:(w.alloc (.cells o e)).heap.size=w.heap.size+1:=World.size_alloc ..;have ik:(w.alloc (.cells o e)).shape? w.heap.size=some (e,o.size):=by unfold World.shape?;rw[jB]
 have b:bn (β.put k (some (some w.heap.size,1))) (w.alloc (.cells o e)) (own K (β.put k (some (some w.heap.size,1))) (s.new k (.a8 F m 1 (List.replicate n [.aD []]) (p7 0 D))).H) (.bc k 1 1 0 n)
   (.slice (some ⟨w.heap.size,0*1,none⟩) n n):= .bc k 1 1 0 n n w.heap.size o.size e (cQ _) (bW _ _ _) (Y▸mV _) ik (by rw[r];omega) (cQ _) (by unfold maxLen;omega)
 rw[gi] at b;exact T _ _ _ (U.put d cv b)
theorem abh{u:TypeDesc}{D:Nat}(k:Nat)(hk:s.u k=false)(n:Nat)(p:Array (Nat×Operand))(e:TypeId)(o:List V)(c:List (List T))(cv: ∀i,d=some i->Nat.blt i K.nt=true)(bJ:fr ((p.toList.map (·.2)).map s.get) o)
  (hu:K.P.underlying t=some (.slice e)) (he:cd K.P e u z size D) (I:Nat.beq p.toList.length o.length=true)
  (cJ:c.length=n) (hp:Nat.blt 0 size=true) (F: ∀l,l∈c->l.length=size) (B:Nat.ble (n*size) 16777216=true)
  (ij:kP (λi=>some (i*size,size)) (List.replicate (n*size) .c4) ((p.toList.map (·.1)).zip o)=some (c.flatten.map .t)):
  dT K ⟨d,.buildSlice t n p,ty,pos,af,g⟩ s ((s.new k (.arr e 1 size c)).put d (.bc k 1 size 0 c.length)):=by
 subst cJ;have adN:0<size:=by simpa[Nat.blt_eq] using hp
 intro β a w next Q b7 M
 have N:dw β w (own K β s.H) o ((p.toList.map (·.2)).map a.eval):=(b7.oh _).le bJ;have pg:=vn a.eval p.toList;obtain⟨m,A,G⟩:=vU (β:=β) (w:=w) (X:=own K β s.H) (λi=>some (i*size,size)) (p.toList.map (·.1)) o _ (List.replicate (c.length*size) .c4)
  ((Array.range (c.length*size)).map ((if c.length*size=0 then #[] else z.cells)[· %(if c.length*size=0 then #[] else z.cells).size]!)) _ (Aq _ _ _ _ _ aV) N (by simpa using cN I) ij
 have L:(execOp a.eval ⟨d,.buildSlice t c.length p,ty,pos,af,g⟩).run K.P w= .ok (.value (.slice (some ⟨w.heap.size,0,none⟩) c.length c.length)) (w.alloc (.cells m e)):=by
  have e2:(p.toList.map λx=>match x with|(i,x)=>(i,a.eval x))=(p.toList.map (·.1)).zip ((p.toList.map (·.2)).map a.eval):=by rw[<-pg]
  have a': ¬(c.length*size>2^24):=by have:=ea B;omega
  simp only[execOp,Instr.buildSlice,Sem.run_bind,run_underlying hu,Result.andThen_ok,he.run_sizeOf,a',if_false,Array.toList_map];by_cases v:c.length*size=0
  ·simp only[v,if_true] at A;simp only[v,if_true,Sem.run_pure,Sem.run_bind,Result.andThen_ok];rw[e2,A];rfl
  simp only[v,if_false] at A;simp only[v,if_false,Sem.run_pure,Sem.run_bind,he.sT,Result.andThen_ok];rw[e2,A];rfl
 unfold Oper.wp;rw[L];have q:m.size=c.flatten.length:=by
  have h:=G.1;rw[c5,l5] at h;exact h
 have R:c.flatten.length=c.length*size:=by
  rw[List.length_flatten]
  have:c.map List.length=List.replicate c.length size:=List.eq_replicate_iff.2 ⟨aV,λb a'=>by obtain⟨r,b7,rfl⟩:=eP.1 a';exact F r b7⟩;rw[this];simp
 have U: ∀(c:List (List T)),(∀l,l∈c->l.length=size)-> ∀(i j:Nat) (l:List T) (x:T),c[i]? =some l->l[j]? =some x->c.flatten[i*size+j]? =some x:=by
  intro c;induction c with
  |nil=>intro _ i j l x h _;simp at h
  |cons r c my=>
   intro hs i j l x A G;have b7:=hs r aV;rw[List.flatten_cons];cases i with
   |zero=>
    simp at A;subst A
    have:=(bR.1 G).1;rw[gi,dt,gG this];exact G
   |succ i=>
    simp at A;rw[gF (by rw[b7,dp];omega)];rw[show(i+1)*size+j-r.length=i*size+j by rw[b7,dp];omega];exact my (λl h=>hs l (by simp[h])) i j l x A G
 have W:=b7.new k 1 hk m e (.arr e 1 size c) (λβ' ie w' hw pb k8=>⟨cQ _,Or.inr ⟨w.heap.size,m,pb,by subst hw;exact jB _ _,by rw[q,R];exact cQ _,F,λi j l x y aJ a2 a3=>by
  have h5:=U c F i j l x aJ a2;have h6:=G.2 (i*size+j) (.t x) y (by rw[ey,h5];rfl) (by simpa using a3);have lP:=k8 _ _ h6;cases lP with|t _ _ h=>exact h⟩⟩)
 have Y:(w.alloc (.cells m e)).heap.size=w.heap.size+1:=World.size_alloc ..;have ik:(w.alloc (.cells m e)).shape? w.heap.size=some (e,m.size):=by unfold World.shape?;rw[jB]
 have f:bn (β.put k (some (some w.heap.size,1))) (w.alloc (.cells m e)) (own K (β.put k (some (some w.heap.size,1))) (s.new k (.arr e 1 size c)).H) (.bc k 1 size 0 c.length)
   (.slice (some ⟨w.heap.size,0*size,none⟩) c.length c.length):= .bc k 1 size 0 c.length c.length w.heap.size m.size e (cQ _) (bW _ _ _) (Y▸mV _) ik (by rw[q,R];simp) (cQ _)
    (by
     have a':=ea B;unfold maxLen
     have:c.length*1<=c.length*size:=Nat.mul_le_mul_left _ O;omega)
 rw[gi] at f;exact M _ _ _ (W.put d cv f)
theorem Yx{C:dM}(W:dU K.P C.cc){n:Nat}{o:Array (Nat×Operand)}{a:List V}{Y:List cr}{b:List dh}(f: ∀k,u k=false->s.u k=false)(D:j4 K.nt d=true)
  (L:a=(o.toList.map (·.2)).map s.get) (h:GS C d t n (o.toList.map (·.1)) u a Y=some (e,b,I)) (Q:cf b):dT K ⟨d,.buildSlice t n o,ty,pos,af,g⟩ s (e.app s):=by
 unfold GS at h;split at h
 ·cases h
 rename_i i v;split at h
 ·rename_i q R;have F:K.P.underlying t=some (.slice q):=(W _ _ v).iw.2.2.2 q R;split at h
  ·cases h
  rename_i j M;obtain⟨qJ,G,_⟩:=W _ _ M;split at h
  ·rename_i k Y U;split at h
   ·rename_i p;cases h
    have:o= #[]:=by
     have:o.toList=[]:=by simpa using U
     simpa using this
    subst this;rw[rf];exact YJ k (f _ p) q (gY D) F G
   cases h
  ·split at h
   ·cases h
   rename_i cs l;split at h
   ·cases h
   rename_i r m;split at h
   ·rename_i N p x y T;cases h;have c:=cN p;obtain⟨z,A,B⟩:=zW j.size _ r c;rw[rf];refine abh _ (f _ N) _ o q (gS a) _ (gY D) (by rw[L];exact l0 _) F G (by rw[sH];simpa using x) z T A y (by rw[l,B,oF m])
   cases h
  ·split at h
   ·cases h
   rename_i cs l;split at h
   ·cases h
   rename_i r m;split at h
   ·rename_i p x y;cases h;have c:=cN p;obtain⟨z,A,B⟩:=zW j.size _ r c;rw[oH];rw[<-Q.1];refine Jl (vals:=gS a) (gY D) ?_ (JE _ o q (gS a) _ F G ?_ (by simp[z]) A y (by rw[l,B,oF m]))
    ·rw[L];simp only[Op.operands];exact l0 _
    rw[sH];simpa using x
   cases h
  ·split at h
   ·cases h
   rename_i cs l;split at h
   ·cases h
   rename_i r m;split at h
   ·rename_i p x y;cases h;have c:=cN p;obtain⟨z,A,B⟩:=zW j.size _ r c;rw[oH];refine Jl (vals:=gS a) (gY D) ?_ (JE _ o q (gS a) _ F G ?_ (by simp[z]) A y (by rw[l,B,oF m]))
    ·rw[L];simp only[Op.operands];exact l0 _
    rw[sH];simpa using x
   cases h
  cases h
 cases h
theorem Xb{C:dM}(L:dU K.P C.cc){n:Nat}{c:Array (Nat×Operand)}{a:List V}{p:List cr}{o:List dh}(Q: ∀k,u k=false->s.u k=false)(R:j4 K.nt d=true)
  (U:a=(c.toList.map (·.2)).map s.get) (h:Gr C d t n (c.toList.map (·.1)) u a l=some (e,o,p)):dT K ⟨d,.buildSlice t n c,ty,pos,af,g⟩ s (e.app s):=by
 unfold Gr at h;split at h
 ·cases h
 rename_i i b;split at h
 ·rename_i z B;have W:K.P.underlying t=some (.slice z):=(L _ _ b).iw.2.2.2 z B;split at h
  ·cases h
  rename_i j f;obtain⟨N,Y,_⟩:=L _ _ f;split at h
  ·rename_i k A m l;split at h
   ·cases h
   rename_i cs x;split at h
   ·cases h
   rename_i r v D;split at h
   ·rename_i F y q G I;cases h;simp only[Bool.and_eq_true] at y q;rw[rf];exact aaL k (Q _ F) c z (ue ((aO A m).ek 0) a) cs A m r v (gY R) (by rw[U];exact ZB _ _) W Y (by rw[UT];simpa using q.1) I G x D (cN y.1) (cN y.2) (cN q.2)
   cases h
  ·rename_i k A m l _;split at h
   ·cases h
   rename_i cs x;split at h
   ·rename_i F y q G I;cases h;simp only[Bool.and_eq_true] at y q;have M:=cN y.1;rw[rf];exact aaM k (Q _ F) _ c z (gS a) cs A m (gY R) (by rw[U];exact l0 _) W Y (by rw[sH];simpa using q.1) I M G x (cN y.2.1) (cN q.2.2) (cN q.2.1)
   cases h
  cases h
 cases h
theorem Xf{C:dM}(z:C.P=K.P)(A:C.G=K.G){c:Operand}{k:Array TypeId}{a:List V}(B:j4 K.nt d=true)
  (r:a=s.get c::i.toList.map s.get) (h:Gi C d a n=some (e,m,l)) (x:cf m):dT K ⟨d,.call {callee:= .value c,args:=i,argTypes:=k},ty,pos,af,g⟩ s (e.app s):=by
 unfold Gi at h;split at h
 ·rename_i f o args;split at h
  ·split at h
   ·rename_i p;cases h;rw[oH];obtain⟨⟨y,q⟩,_⟩:=x;rw[z] at y q;rw[A] at q;simp only[List.cons.injEq] at r;exact NU o _ _ y r.1.symm (gY B) (by rw[<-r.2];exact l0 _) p q
   cases h
  ·cases h;rw[oH];obtain⟨p,⟨y,q⟩,_⟩:=x;rw[z] at y q;rw[A] at q;simp only[List.cons.injEq] at r;exact NU o _ _ y r.1.symm (gY B) (by rw[<-r.2];exact l0 _) p q
  cases h
 cases h
mutual
theorem MF{T D:Map}{w a:World}{X Y:Nat->Prop}: ∀{v:V} {u:Value},rJ v=true->bn T w X v u->bn D a Y v u
 | .t (.int _ _),u,_,h=>by rw[dF h];exact .t _ _ (.int _ _)
 | .t (.bool _),u,_,h=>by rw[nw h];exact .t _ _ (.bool _)
 | .t (.str _),u,_,h=>by rw[hn h];exact .t _ _ (.str _)
 | .agg cs,u,e,h=>by
  simp only[rJ] at e;cases h with|agg _ l m h=>exact .agg _ l m (λi c u k n=>EM e i c u k (h i c u k n))
 | .bL cs,u,e,h=>by
  simp only[rJ] at e;cases h with|bL _ l m h=>exact .bL _ l m (λi c u k n=>EM e i c u k (h i c u k n))
 | .t (.aD _),_,e,_| .t .fo,_,e,_| .t .hA,_,e,_| .t .gA,_,e,_| .t .nx,_,e,_| .t .err,_,e,_=>by simp[rJ] at e
 | .ref _ _,_,e,_| .aQ _,_,e,_| .bc _ _ _ _ _,_,e,_| .cC _ _ _ _ _,_,e,_| .fn _ _,_,e,_| .c4,_,e,_=>by simp[rJ] at e
theorem EM{T D:Map}{w a:World}{X Y:Nat->Prop}: ∀{cs:List V},tV cs=true-> ∀(i:Nat) c u,cs[i]? =some c->bn T w X c u->bn D a Y c u
 | [],_,_,_,_,h,_=>by simp at h
 |c::cs,e,0,l,u,k,h=>by
  simp only[tV,Bool.and_eq_true] at e;simp at k;subst k;exact MF e.1 h
 |c::cs,e,i+1,l,u,k,h=>by simp only[tV,Bool.and_eq_true] at e;exact EM e.2 i l u (by simpa using k) h
end
theorem cH.read{β:Map}{w:World}{X Y:Nat->Prop}{a:List (List T)}{u:Value}(h:cH β w X k (.arr t gen size a))(B:bn β w X (.bc k gen size 0 a.length) u)
  (D: ∀b,Y b->X b) (F: ∀b,At β k b-> ¬Y b):cX w Y (.aD a) u:=by
 obtain⟨q,r⟩:=jq h;rcases fa B r with ⟨y,b,n,G,rfl,m,I,f,L,Q,v⟩|⟨m,_,R,rfl⟩
 ·subst m;rcases h.2 with ⟨o,z⟩|⟨M,l,o,z,N,A,U⟩
  ·rw[r] at o;cases o
  rw[r] at o;cases o;rw[gi];refine .aD a b 0 size y (λi j=>l.getD (i*size+j) undef) I (F b (.inl ⟨_,r⟩)) Q A (λi j aH W=>?_) λi j p x aJ a2=>?_
  ·have c:i*size+j<l.size:=by
    have:(i+1)*size<=a.length*size:=dA _ aH;rw[dp] at this;omega
   rw[dt];simp[World.cell?,z,c]
  have aH:=(bR.1 aJ).1;have W:j<size:=by rw[<-A p (bE aJ)];exact(bR.1 a2).1
  have c:i*size+j<l.size:=by
   have:(i+1)*size<=a.length*size:=dA _ aH;rw[dp] at this;omega
  have:=U i j p x l[i*size+j] aJ a2 (by simp[c]);have e:l.getD (i*size+j) undef=l[i*size+j]:=by simp[c]
  rw[e];exact this.mono (Ext.refl _ _) λb _=>D b
 have:a=[]:=List.length_eq_zero_iff.1 R;subst this;exact .fY _ _
theorem cH.afy{β:Map}{w:World}{X G:Nat->Prop}{l:List dQ}{m:Nat}{a:List (List T)}{u:Value}(h:cH β w X k (.a8 l m gen a []))(U:bn β w X (.bc k gen (aO l m).size 0 a.length) u)
  (W: ∀b,G b->X b) (L: ∀b,At β k b-> ¬G b):cX w G (.aD a) u:=by
 obtain⟨q,D⟩:=ts h;rcases fa U D with ⟨I,b,n,Y,rfl,o,f,hs,t,v,hm⟩|⟨o,_,M,rfl⟩
 ·subst o;rcases h.2 with ⟨p,Q⟩|⟨gm,r,B,p,Q,h3,R,N,_,_,P⟩
  ·rw[D] at p;cases p
  rw[D] at p;cases p;rw[gi];have y: ∀i j,i<a.length->j<(aO l m).size->i*(aO l m).size+j<r.size:=λi j aH F=>by
   have:(i+1)*(aO l m).size<=a.length*(aO l m).size:=dA _ aH;rw[dp] at this;omega
  refine .aD a b 0 (aO l m).size I (λi j=>r.getD (i*(aO l m).size+j) undef) f (L b (.inl ⟨_,D⟩)) v R (λi j aH F=>?_) λi j z x aJ a2=>?_
  ·have:=y i j aH F;rw[dt];simp[World.cell?,Q,this]
  have aH:=(bR.1 aJ).1;have F:j<(aO l m).size:=by rw[<-R z (bE aJ)];exact(bR.1 a2).1
  have A:=y i j aH F
  have:=(N i j z x r[i*(aO l m).size+j] aJ a2 (by simp[A])).none;have e:r.getD (i*(aO l m).size+j) undef=r[i*(aO l m).size+j]:=by simp[A]
  rw[e];exact this.yt W λc V=>L c (.inr ((P c).2 ⟨i,j,V⟩))
 have:a=[]:=List.length_eq_zero_iff.1 M;subst this;exact .fY _ _
def tE:V->List Nat
 | .bc k _ _ _ _=>[k]
 |_=>[]
mutual
def p4(H:Nat->Option E):V->List Nat
 | .bc k _ _ _ _=>[k]
 | .ref id _=>id::(match H id with
  |some (.cells cs)=>cs.flatMap tE
  |_=>[])
 | .agg cs=>oU H cs
 | .bL cs=>oU H cs
 | .fn _ cs=>oU H cs
 | .t _| .aQ _| .cC _ _ _ _ _| .c4=>[]
def oU(H:Nat->Option E):List V->List Nat
 | []=>[]
 |v::a=>p4 H v++oU H a
end
section
variable {β:Map} {w:World} {X X1:Nat->Prop} {H:Nat->Option E}
theorem NB{v:V}{x:T}{r:List dh}{u:Value}(q: ∀k e,H k=some e->cH β w X k e)(l: ∀b,X1 b->X b)(z: ∀k,k∈tE v-> ∀b,At β k b-> ¬X1 b)
  (h:xg H v=some (x,r)) (a:cf r) (n:bn β w X v u):cX w X1 x u:=by
 cases v with
 |bc k gen A B D=>
  simp only[xg] at h;split at h
  ·rename_i ty c o i p;cases h;obtain⟨rfl,rfl,rfl,rfl,_⟩:=a;exact(q k _ p).read n l (z k (by simp[tE]))
  ·rename_i F m c i p;cases h;obtain⟨rfl,rfl,rfl,rfl,_⟩:=a;exact(q k _ p).afy n l (z k (by simp[tE]))
  cases h
 |t y=>
  simp only[xg] at h;cases h;cases n with|t _ _ h=>exact(h.mono (Ext.refl _ _) λb _=>l b).x6
 |agg=>cases h
 |bL=>cases h
 |ref=>cases h
 |aQ=>cases h
 |cC=>cases h
 |fn=>cases h
 |c4=>cases h
theorem M2(q: ∀k e,H k=some e->cH β w X k e)(r: ∀b,X1 b->X b): ∀{a:List V} {eH:List T} {m:List dh},(∀k,k∈a.flatMap tE-> ∀b,At β k b-> ¬X1 b)->Bk H a=some (eH,m)->cf m->
  eH.length=a.length/\ ∀(U:Nat->Option Value),(∀(i:Nat) c u,a[i]? =some c->U i=some u->bn β w X c u)-> ∀(i:Nat) x u,eH[i]? =some x->U i=some u->cX w X1 x u
 | [],_,_,_,h,_=>by cases h;exact⟨rfl,λ_ _ i x u B=>by simp at B⟩
 |v::a,eH,m,z,h,n=>by
  simp only[Bk] at h;split at h
  ·rename_i x D f F G I;cases h;obtain⟨L,Q⟩:=cf.app n;obtain⟨R,W⟩:=M2 q r (λk o=>z k (by rw[List.flatMap_cons];exact pR _ o)) I Q;refine⟨by simp[R],λU A i y u p l=>?_⟩;cases i with
   |zero=>
    simp at p;subst p;exact NB q r (λk o=>z k (by rw[List.flatMap_cons];exact mT _ o)) G L (A 0 v u rfl l)
   |succ i=>
    exact W (λj=>U (j+1)) (λj c u Y l=>A (j+1) c u (by simpa using Y) l) i y u (by simpa using p) l
  cases h
mutual
theorem aav(G: ∀k e,H k=some e->cH β w X k e)(B: ∀b,X1 b->X b): ∀(v:V) {r:V} {y:List dh} {u:Value},(∀k,k∈p4 H v-> ∀b,At β k b-> ¬X1 b)->
  nc H v=some (r,y)->cf y->bn β w X v u->bn g' w X1 r u
 | .bc k gen W l len,r,y,u,q,h,a,o=>by
  simp only[nc] at h;split at h
  ·rename_i x z A;cases h;exact .t _ _ (NB G B (λj L=>q j (by simpa[p4,tE] using L)) A a o)
  cases h
 | .t x,r,y,u,q,h,a,o=>by
  simp only[nc] at h;cases h;cases o with|t _ _ h=>exact .t _ _ (h.mono (Ext.refl _ _) λb _=>B b).x6
 | .aQ cs,r,y,u,q,h,a,o=>by
  simp only[nc] at h;cases h;exact o.under (u:=gx) B (λ_ h=>by simp[gx] at h) rfl
 | .ref id l,r,y,u,q,h,a,o=>by
  simp only[nc] at h;split at h
  ·rename_i cs m;split at h
   ·rename_i eH z A;cases h;obtain⟨b,Y,rfl⟩:=rn o;obtain⟨gm,n,ty,M,N,mo,xm⟩:=G id _ m;rw[Y] at M;cases M;obtain⟨Q,D⟩:=M2 G B (λk F=>q k (by simp only[p4,m];exact eA _ F)) A a;have R:b<w.heap.size:=by
     have:=(jt.1 N).1;exact this
    refine .aQ (eH.drop l) b l (λj=>n.getD (l+j) undef) R (q id (by simp[p4]) b (.inl ⟨_,Y⟩)) (λj L=>?_) λj x U=>?_
    ·rw[fs] at L
     have:l+j<n.size:=O
     simp[World.cell?,N,this]
    rw[fZ] at U;have L:=(bR.1 U).1
    have:l+j<n.size:=O
    have e:n.getD (l+j) undef=n[l+j]:=by simp[this]
    rw[e];exact D (λi=>n[i]?) (λi c u m p=>xm i c u m p) (l+j) x _ U (by simp[this])
   cases h
  cases h
 | .agg cs,r,y,u,q,h,a,o=>by
  simp only[nc] at h;split at h
  ·rename_i P z A;cases h;cases o with|agg _ n T I=>
   obtain⟨Q,D⟩:=wK G B cs (λk F=>q k (by simpa[p4] using F)) A a;exact .agg _ n O λi c u m p=>D (λi=>n[i]?) (λi c u m p=>I i c u m p) i c u m p
  cases h
 | .bL cs,r,y,u,q,h,a,o=>by
  simp only[nc] at h;split at h
  ·rename_i P z A;cases h;cases o with|bL _ n T I=>
   obtain⟨Q,D⟩:=wK G B cs (λk F=>q k (by simpa[p4] using F)) A a;exact .bL _ n O λi c u m p=>D (λi=>n[i]?) (λi c u m p=>I i c u m p) i c u m p
  cases h
 | .fn f cs,r,y,u,q,h,a,o=>by
  simp only[nc] at h;split at h
  ·rename_i P z A;cases h;cases o with|fn _ _ n T I=>
   obtain⟨Q,D⟩:=wK G B cs (λk F=>q k (by simpa[p4] using F)) A a;exact .fn _ _ n O λi c u m p=>D (λi=>n[i]?) (λi c u m p=>I i c u m p) i c u m p
  cases h
 | .cC _ _ _ _ _,_,_,_,_,h,_,_=>by simp only[nc] at h;cases h
 | .c4,_,_,_,_,h,_,_=>by simp only[nc] at h;cases h
theorem wK(r: ∀k e,H k=some e->cH β w X k e)(z: ∀b,X1 b->X b): ∀(l:List V) {a:List V} {n:List dh},(∀k,k∈oU H l-> ∀b,At β k b-> ¬X1 b)->
  o2 H l=some (a,n)->cf n->a.length=l.length/\ ∀(U:Nat->Option Value),(∀(i:Nat) c u,l[i]? =some c->U i=some u->bn β w X c u)-> ∀(i:Nat) x u,a[i]? =some x->U i=some u->bn g' w X1 x u
 | [],_,_,_,h,_=>by simp only[o2] at h;cases h;exact⟨rfl,λ_ _ i x u D=>by simp at D⟩
 |v::l,a,n,A,h,o=>by
  simp only[o2] at h;split at h
  ·rename_i x F t G I L;cases h;obtain⟨Q,R⟩:=cf.app o;obtain⟨W,Y⟩:=wK r z l (λk p=>A k (by simp only[oU];exact pR _ p)) L R;refine⟨by simp[W],λU B i y u q m=>?_⟩;cases i with
   |zero=>
    simp at q;subst q;exact aav r z v (λk p=>A k (by simp only[oU];exact mT _ p)) I Q (B 0 v u rfl m)
   |succ i=>
    exact Y (λj=>U (j+1)) (λj c u f m=>B (j+1) c u (by simpa using f) m) i y u (by simpa using q) m
  cases h
end
theorem aaw(r: ∀k e,H k=some e->cH β w X k e)(x: ∀b,X1 b->X b): ∀{l a:List V} {m:List dh} {us:List Value},(∀k,k∈oU H l-> ∀b,At β k b-> ¬X1 b)->
  o2 H l=some (a,m)->cf m->dw β w X l us->dw g' w X1 a us:=fun {l a m us} y h n q=>by obtain⟨z,A⟩:=wK r x l y h n;exact EL (by rw[z];exact q.fp.1) λi c u o p=>A (λi=>us[i]?) (λi c u o p=>q.fp.2 i c u o p) i c u o p
end
theorem Yq{C:dM}(xw:C.P=K.P)(k5:C.G=K.G){c:Operand}{x:Array TypeId}{l:List V}{H:Nat->Option E}{F:List cr}{N:List dh}(cv:j4 K.nt d=true)(hH: ∀k e,H k=some e->s.H k=some e)
  (I:l=s.get c::i.toList.map s.get) (h:GM C d H l M=some (e,N,F)) (L:cf N):dT K ⟨d,.call {callee:= .value c,args:=i,argTypes:=x},ty,pos,af,g⟩ s (e.app s):=by
 unfold GM at h;split at h
 ·rename_i f m args;split at h
  ·rename_i r M;split at h
   ·rename_i ys ag2 n R;cases h;rw[oH];obtain⟨ya,⟨y,o⟩,_⟩:=cf.app L;rw[xw] at y o;rw[k5] at o;simp only[List.cons.injEq] at I;obtain⟨T,h1,h2,h3⟩:=y;intro β a w next Q q U
    have W:T.name≠ "runtime.NumGoroutine" :=by simpa using h2
    have Y:T.body≠none:=by intro e;simp[e] at h3
    obtain⟨us,j,t⟩:=(I.1.symm▸q.get c).He;have z:(execOp a.eval ⟨d,.call {callee:= .value c,args:=i,argTypes:=x},ty,pos,af,g⟩).run K.P w= .ok (.enter f (i.map a.eval++us)) w:=by
     simp[execOp,resolve,Deferred.ofValue,j,invoke,callFunc,h1,W,Y]
    unfold Oper.wp;rw[z,Oper.upon_enter];have A:dw β w (own K β s.H) (args++m) (i.toList.map a.eval++us.toList):=by rw[I.2];exact(q.oh i.toList).app t
    let X1:Nat->Prop:=λb=>own K β s.H b/\ ∀k,k∈oU H (args++m)-> ¬At β k b;have p:=aaw (X1:=X1) (λk e v=>(q.heap k e (hH k e v)).2) (λb n=>n.1) (λk U b n hx=>hx.2 k U n) n ya A;have B:=o w X1 _ q.BH (λb n=>q.Iw b n.1) p;have v:(List.map a.eval i.toList++us.toList).toArray=i.map a.eval++us:=by rw[<-vD,<-Array.toList_append]
    rw[v] at B;refine B.mono ?_;rintro e w' ⟨u,rfl,D,hu⟩;exact U β _ w' ((q.grow D).put d (gY cv) (MF R hu))
   cases h
  cases h
 cases h
theorem Zt{C:dM}(t:C.P=K.P)(M:C.G=K.G){c:Operand}{F:Array Operand}{x:Array TypeId}{m:List V}{H:Nat->Option E}{W:List dh}(N:j4 K.nt d=true)
  (T: ∀k e,H k=some e->s.H k=some e) (hu: ∀k,u k=false->s.u k=false)
  (z:m=s.get c::F.toList.map s.get) (h:G4 C d m H u U=some (e,W,I)) (Q:cf W):dT K ⟨d,.call {callee:= .value c,args:=F,argTypes:=x},ty,pos,af,g⟩ s (e.app s):=by
 unfold G4 at h;split at h
 ·rename_i f A args;split at h
  ·rename_i L a r out U;split at h
   ·rename_i R gP fU aH n;cases h;simp only[List.cons.injEq] at z;simp only[Bool.and_eq_true] at n;obtain⟨⟨p,B⟩,i⟩:=n;have i:=cN i;obtain⟨⟨Y,q⟩,_⟩:=Q;rw[t] at Y q;rw[M] at q;obtain⟨aJ,a2⟩:=wP _ _ fU;obtain⟨i1,i2⟩:=z7 _ _ aH;have hx:=WV (K:=K) (s:=s) (o:=⟨d,.call {callee:= .value c,args:=F,argTypes:=x},ty,pos,af,g⟩) c L a A rfl z.1.symm Y (gY N) (by rw[<-z.2,aJ];exact l0 _) a2 i1
     (λk e l=>by
      obtain⟨id,h1,h2,h4⟩:=i2 k e l;exact⟨id,h1,T _ _ h2,h4⟩)
     (zw p) (λid hid=>hu _ (Kn B id hid)) (λ_=>i) q
    have hj:=hx.j;have l:cS.app ⟨fb d (r.du (L++a)),(L++a).zip (out.map λe=>some (e.du (L++a))),(L++a).map λk=>(k,true)⟩ s=(s.after (L++a) out).put d (r.du (L++a)):=by
     have e1:di s.H ((L++a).zip (out.map λe=>some (e.du (L++a))))=lk s.H (L++a) (λk=>(out[k]?).map (E.du (L++a))):=by
      have:=KC (L++a) (zw p) s.H (out.map λe=>some (e.du (L++a))) (λk=>(out[k]?).map (E.du (L++a))) (by simpa using i) (λk e l=>by
       rw[ey] at l;cases b:out[k]? with
       |none=>rw[b] at l;cases l
       |some y=>rw[b] at l;simp at l;rw[<-l];rfl)
      exact this
     have e2:di s.u ((L++a).map λk=>(k,true))=lk s.u (L++a) (λ_=>true):=by
      funext id;by_cases D:id∈L++a
      ·obtain⟨k,hk⟩:=km.1 D;rw[ot (zw p) hk];exact KE D
      rw[nn D,mz _ _ _ λv z=>D (by obtain⟨y,hy,e⟩:=eP.1 z;cases e;exact hy)]
     unfold cS.app S.after;cases d<;>simp only[fb,di,S.put,e1,e2]
    rw[l];exact hj
   cases h
  cases h
 cases h
theorem Vz{C:dM}(r:dU K.P C.cc){H:Nat->Option E}{v:V}(y: ∀k e,H k=some e->s.H k=some e)
  (z:s.get x=v) (h:FN C t H v l=some (e,m,c)) (a:cf m):dT K ⟨none,.call {callee:= .builtin .clear,args:= #[x],argTypes:= #[t]},ty,pos,af,g⟩ s (e.app s):=by
 unfold FN at h;split at h
 ·cases h
 rename_i i A;split at h
 ·rename_i n o;have B:K.P.underlying t=some (.slice n):=(r _ _ A).iw.2.2.2 n o;split at h
  ·cases h
  rename_i j D;obtain⟨Q,F,_⟩:=r _ _ D;split at h
  ·rename_i p;split at h
   ·rename_i G I;cases h;obtain⟨rfl,rfl,q,⟨L,rfl⟩,_⟩:=a;exact ZK x _ _ _ n _ _ _ z (y _ _ G) B F I p q L
   cases h
  cases h
 cases h
theorem Xc{C:dM}(D:dU K.P C.cc){F:TypeId}{H:Nat->Option E}{v w:V}{G:List cr}{I:List dh}(Q: ∀k e,H k=some e->s.H k=some e)(U:j4 K.nt d=true)
  (W:s.get x=v) (Y:s.get y=w) (h:Gf C d t H v w G=some (e,I,n)) (o:cf I):dT K ⟨d,.call {callee:= .builtin .copy,args:= #[x,y],argTypes:= #[t,F]},ty,pos,af,g⟩ s (e.app s):=by
 unfold Gf at h;split at h
 ·cases h
 rename_i i b;split at h
 ·rename_i p q;have f:K.P.underlying t=some (.slice p):=(D _ _ b).iw.2.2.2 p q;split at h
  ·cases h
  rename_i j r;obtain⟨qJ,u,_⟩:=D _ _ r;split at h
  ·rename_i k gen L z A a R m G M;split at h
   ·rename_i N c B l T hp;cases h;obtain⟨rfl,rfl,rfl,rfl,b7,⟨cE,rfl⟩,_⟩:=o;have r:=aaN (K:=K) (s:=s) (d:=d) (ty:=ty) (pos:=pos) (af:=af) (g:=g) (gen:=c) (size:=j.size) x y k z A p N F l a (gY U) W (by rw[Y,<-M];exact tD w) (Q _ _ T) f u (by simpa[Nat.blt_eq] using hp) b7 cE
    have: ∀v e,cS.app ⟨fb d v,[(k,some e)],[]⟩ s=({s with H:=aU s.H k (some e)}:S).put d v:=by intro v e;cases d<;>rfl
    rw[this];exact r
   cases h
  cases h
 cases h
theorem aaY{C:dM}(z:dU K.P C.cc)(Y:C.P=K.P)(M:C.G=K.G)(cJ:C.nt=K.nt)(N:C.c'=K.c'){m:List V}{H:Nat->Option E}{b Q:List cr}{R:List dh}
  (a:m=o.op.operands.toList.map s.get) (D: ∀k e,H k=some e->s.H k=some e) (L: ∀k,u k=false->s.u k=false) (h:Hd C o m H u b=some (e,R,Q)) (l:cf R):dT K o s (e.app s):=by
 obtain⟨d,U,ty,pos,af,g⟩:=o;unfold Hd at h;dsimp only at h;split at h
 ·cases h
 rename_i q;rw[cJ] at q;have F: ∀{U:Op} {r:jb},m=U.operands.toList.map s.get->(match xp C.P C.cc H U m b with|some (v,R,b)=>some ((⟨fb d v,[],[]⟩:cS),R,b)|none=>none)=some (e,R,Q)->dT K ⟨d,U,ty,pos,af,g⟩ s (e.app s):=by
  intro U r a h;split at h
  ·rename_i v ag1 agz n;cases h;rw[oH];rw[Y] at n;exact Ub (vals:=m) (gY q) (fr.of_eq a.symm) ((aaX z n l).sub D)
  cases h
 split at h
 ·split at h
  ·simp only[Op.operands,List.map_cons,List.map_nil,List.cons.injEq,and_true] at a;split at h
   ·exact Xg q a.symm h
   exact Yp L q a.symm h
  cases h
 ·split at h
  ·rename_i i aH;exact VB z aH L q h
  cases h
 ·split at h
  ·simp only[Op.operands,List.map_cons,List.map_nil,List.cons.injEq,and_true] at a;split at h
   ·rename_i n;cases h;exact VM z rfl D a.1.symm a.2.symm n l
   exact UP z D a.1.symm a.2.symm h l
  cases h
 ·split at h
  ·simp only[Op.operands,List.map_cons,List.map_nil,List.cons.injEq,and_true] at a;exact Xa z L q a.1.symm a.2.symm h l
  cases h
 ·split at h
  ·rename_i n;cases h;exact Yx z L q (by simpa[Op.operands] using a) n l
  exact Xb z L q (by simpa[Op.operands] using a) h
 ·rename_i c;obtain⟨j,args,I⟩:=c;dsimp only at h;split at h
  ·rename_i f;split at h
   ·exact Zt Y M q D L (by simpa[Op.operands,Call.operands] using a) h l
   split at h
   ·exact Yq Y M q D (by simpa[Op.operands,Call.operands] using a) h l
   exact Xf Y M q (by simpa[Op.operands,Call.operands] using a) h l
  ·split at h
   ·rename_i x y t T v w W A;have B:args= #[x,y]:=by rw[<-W]
    have p:I= #[t,T]:=by rw[<-A]
    subst B;subst p;simp only[Op.operands,Call.operands] at a;simp at a;split at h
    ·rename_i n;cases h;exact UB z N D q a.1.symm a.2.symm n l
    exact TO z D q a.1.symm a.2.symm h l
   cases h
  ·split at h
   ·rename_i x t v W A;have B:args= #[x]:=by rw[<-W]
    have p:I= #[t]:=by rw[<-A]
    subst B;subst p;simp only[Op.operands,Call.operands] at a;simp at a;exact Vz z D a.symm h l
   cases h
  ·split at h
   ·rename_i x y t T v w W A;have B:args= #[x,y]:=by rw[<-W]
    have p:I= #[t,T]:=by rw[<-A]
    subst B;subst p;simp only[Op.operands,Call.operands] at a;simp at a;exact Xc z D q a.1.symm a.2.symm h l
   cases h
  ·exact F (r:=none) a h
  cases h
 exact F (r:=none) a h
def aev:V->List Nat
 | .ref id _=>[id]
 | .bc id _ _ _ _=>[id]
 | .cC id _ _ _ _=>[id]
 |_=>[]
def G3:List V->List Nat
 | []=>[]
 |v::a=>aev v++G3 a
def P9:List cr->List Nat
 | .nat k::a=>k::P9 a
 |_=>[]
def aeu:List cr->List Nat
 | .b true::c=>P9 c
 | .nat k::_=>[k]
 | .int _:: .nat k::_=>[k]
 | .dJ L a _ _::_=>L++a
 | .lt k _ _::_=>[k]
 |_=>[]
def hF(k:Nat):List Nat->Bool
 | []=>false
 |x::l=>bif Nat.beq x k then true else hF k l
theorem zX{k:Nat}: ∀{l:List Nat},hF k l=true->k∈l
 | [],h=>by cases h
 |x::l,h=>by
  simp only[hF] at h;cases a:Nat.beq x k with
  |true=>rw[cN a];exact eX
  |false=>rw[a] at h;exact eA _ (zX h)
def ua(a:List Nat)(H:Nat->Option E):Nat->Option E:=λk=>bif hF k a then H k else none
def t'(a:List Nat)(u:Nat->Bool):Nat->Bool:=λk=>bif hF k a then u k else true
theorem V1{H:Nat->Option E}{e:E}(h:ua r H k=some e):H k=some e:=by
 unfold ua at h;cases a:hF k r with
 |true=>rw[a] at h;exact h
 |false=>rw[a] at h;cases h
theorem US(h:t' r u k=false):u k=false:=by
 unfold t' at h;cases a:hF k r with
 |true=>rw[a] at h;exact h
 |false=>rw[a] at h;cases h
def abw:Op->List V->Bool
 | .nilCheck _,[.cC _ _ _ _ _]=>false
 | .move _,_| .assign _,_| .pick _ _ _,_| .nilCheck _,_| .binOp _ _ _ _ _,_| .unOp _ _ _,_| .convert _ _ _,_| .makeFunc _ _ _,_| .extract _ _,_| .field _ _ _,_| .build _ _,_=>true
 | .fieldAddr _ _ _,[.ref _ _]=>true
 |_,_=>false
def abu:Op->Bool
 | .load _ _| .slice _ _ _ _ _| .fieldAddr _ _ _| .indexAddr _ _ _| .index _ _ _| .nilCheck _=>true
 | .call c=>match c.callee with
  | .builtin .len=>true
  | .builtin .max=>true
  | .builtin .min=>true
  |_=>false
 |_=>false
def uN(o:Oper)(a:List V)(c:List cr):List Nat:=match abw o.op a with
 |true=>[]
 |false=>match abu o.op with
  |true=>G3 a
  |false=>G3 a++aeu c
def qi(C:dM)(o:Oper)(a:List V)(s:S)(c:List cr):jb:=Hd C o a (ua (uN o a c) s.H) (t' (uN o a c) s.u) c
def Ig:Bool->Bool->Bool
 |true,true=>true
 |false,false=>true
 |_,_=>false
def uw(a:Array Oper)(j:Nat)(s:S):Option V:=match (a[j]?).bind (·.dst) with
 |some t=>some (s.t t)
 |none=>none
def r3(C:dM)(h:Array Oper)(o:Oper)(a:List cr)(s:S):jb:=
 match o.guard with
 |none=>qi C o (o.op.operands.toList.map s.get) s a
 |some (j,c)=>match uw h j s with
  |some (.bL [])=>match j4 C.nt o.dst with
   |true=>some (⟨fb o.dst (.bL []),[],[]⟩,[],a)
   |false=>none
  |some (.t (.bool b))=>match a with
   | .b w::a=>match Ig w c with
    |true=>match qi C o (o.op.operands.toList.map s.get) s a with
     |some (e,i,a)=>some (e,.p (b=w)::i,a)
     |none=>none
    |false=>match j4 C.nt o.dst with
     |true=>some (⟨fb o.dst (.bL []),[],[]⟩,[.p (b=w)],a)
     |false=>none
   |_=>none
  |_=>none
end
structure dM.Fits (C:dM) (K:Ctx):Prop where
 T:dU K.P C.cc
 P:C.P=K.P
 G:C.G=K.G
 nt:C.nt=K.nt
 c':C.c'=K.c'
 gU:C.gU=K.gU
section
variable {K:Ctx} {s:S} {C:dM}
theorem On(a:C.Fits K)(h:qi C o (o.op.operands.toList.map s.get) s l=some (e,m,c))(i:cf m):dT K o s (e.app s):=
 aaY a.T a.P a.G a.nt a.c' rfl (λ_ _ h=>V1 h) (λ_ h=>US h) h i
theorem YM{w v:Bool}(h:Ig w v=true):w=v:=by cases w<;>cases v<;>first|rfl|cases h
theorem WW{w v:Bool}(h:Ig w v=false):w= !v:=by cases w<;>cases v<;>first|rfl|cases h
theorem N1{a:Array Oper}{j:Nat}{v:V}(h:uw a j s=some v): ∃t,(a[j]?).bind (·.dst)=some t/\s.t t=v:=by
 unfold uw at h;split at h
 ·rename_i t c;exact⟨t,c,by cases h;rfl⟩
 cases h
theorem Oa(p:C.Fits K){V:Array Oper}(h:r3 C V o l s=some (e,m,c))(a:cf m):ib K V o s (e.app s):=by
 unfold r3 at h;split at h
 ·rename_i k;exact ib.of k (On p h a)
 rename_i j z k;split at h
 ·rename_i i;obtain⟨t,q,r⟩:=N1 i;split at h
  ·rename_i x;cases h;rw[oH];exact ib.skip k q r (gY (p.nt▸x))
  cases h
 ·rename_i b i;obtain⟨t,q,r⟩:=N1 i;split at h
  ·rename_i w l;split at h
   ·rename_i hw;have hw:=YM hw;subst hw;split at h
    ·rename_i D A B y;cases h;obtain⟨rfl,n⟩:=a;exact ib.gP k q r (On p y n)
    cases h
   rename_i hw;have hw:=WW hw;subst hw;split at h
   ·rename_i x;cases h;obtain⟨rfl,_⟩:=a;rw[oH];exact ib.out k q r (gY (p.nt▸x))
   cases h
  cases h
 cases h
theorem aa2{V:Array Oper}{l:List Oper}{Q:S->Prop}(h:ib K V o s b)(k:qb K V l b Q):qb K V (o::l) s Q:=
 λβ a w c m n=>h β a w (wpList K.P V c l) c m λe p q i=>k e p q c i n
end
end Go.Lift
