/- Tools. -/
import Derived.Test.YteifkndfpnkalaaGreatELiftTV
namespace Go.Lift
open Go
open Option renaming some -> aa, none -> aj, map_some -> hv
open Bool renaming true -> ab, false -> ak, and_eq_true -> b9
open Go.Result renaming andThen_ok -> fu
open Go.Builtin renaming zeroCells -> eS
open List renaming replicate -> dA, map_cons -> gf
open Go.World renaming shape? -> hz
open Go.Sem renaming run_bind -> fx
open Nat renaming beq -> b5, blt -> dt, ble -> db
section
variable {P:Program}{cn:List (Nat×cv)}{H:Nat->Option E}{d:Option Tmp}{ty:TypeId}{pos:String}{af:Array Edge}{g:Option (Nat×Bool)}
variable {t:TypeId}{u:TypeDesc}{z:Value}{size bytes:Nat}
theorem CO(a:BinOp)(e:Rm a=ab)(x y:Operand)(t h:TypeId)(k:IntKind)(m n:Int):cc P H ⟨d,.binOp a t x y h,ty,pos,af,g⟩ [.t (.int k m),.t (.int k n)] (.t (.int k (bits a k m n))):=by
 intro i w X l _ c;refine⟨Value.int k (bits a k m n),?_,.t _ _ (.int k _)⟩;cases a<;>simp[Rm] at e<;>
  simp[execOp,dP c.1,dP c.2.1,eqGuard,binOp,intBits_and,intBits_or,intBits_xor,intBits_andNot]
theorem aeV(x y:Operand)(t c:TypeId)(m n:List UInt8):cc P H ⟨d,.binOp .lss t x y c,ty,pos,af,g⟩ [.t (.str m),.t (.str n)] (.t (.bool (Op.bytesLess m n))):=by intro e w X h _ a;refine⟨.bool (Op.bytesLess m n),?_,.t _ _ (.bool _)⟩;simp[execOp,iu a.1,iu a.2.1,eqGuard,binOp,Op.stringOp]
theorem aeX(x y:Operand)(t c:TypeId)(m n:List UInt8):cc P H ⟨d,.binOp .gtr t x y c,ty,pos,af,g⟩ [.t (.str m),.t (.str n)] (.t (.bool (!Op.bytesLess m n&& !m==n))):=by intro e w X h _ a;refine⟨.bool (!Op.bytesLess m n&& !m==n),?_,.t _ _ (.bool _)⟩;simp[execOp,iu a.1,iu a.2.1,eqGuard,binOp,Op.stringOp]
theorem aeW(x y:Operand)(t c:TypeId)(m n:List UInt8):cc P H ⟨d,.binOp .leq t x y c,ty,pos,af,g⟩ [.t (.str m),.t (.str n)] (.t (.bool (Op.bytesLess m n||m==n))):=by intro e w X h _ a;refine⟨.bool (Op.bytesLess m n||m==n),?_,.t _ _ (.bool _)⟩;simp[execOp,iu a.1,iu a.2.1,eqGuard,binOp,Op.stringOp]
theorem afZ(x:Operand)(t:TypeId)(k:IntKind)(n:Int):cc P H ⟨d,.unOp .neg t x,ty,pos,af,g⟩ [.t (.int k n)] (.t (.int k (k.wrap (0-n)))):=by intro c w X e _ a;refine⟨.int k (k.wrap (0-n)),?_,.t _ _ (.int _ _)⟩;simp[execOp,dP a.1,Op.unary,Op.intArith]
theorem X8(x:Operand)(f:FuncId)(a:List V):cc P H ⟨d,.nilCheck x,ty,pos,af,g⟩ [.fn f a] (.fn f a):=by intro h w X c _ i;have e:bq h w X (.fn f a) (c x):=i.1;refine⟨c x,?_,e⟩;generalize k:c x=y at e;cases e with|fn=>simp[execOp,k]
variable {a v b:V}{x y:Operand}{i k:TypeId}{m e r:List dE}{n l c p q:List cB}{W:Map}{w:World}{X:Nat->Prop}
theorem ac3{a:BinOp}{t:TypeId}{k:IntKind}{m n:Int}(h:IV a k m n l=aa (v,e,c))(o:cy e):
  cc P H ⟨d,.binOp a t x y i,ty,pos,af,g⟩ [.t (.int k m),.t (.int k n)] v:=by
 cases a<;>simp only[IV,Rx,Option.some.injEq,Prod.mk.injEq,reduceCtorEq] at h<;>obtain⟨rfl,rfl,rfl⟩:=h
 ·exact af9 _ _ _ _ _ _ _
 ·exact agd _ _ _ _ _ _ _
 ·exact af0 _ _ _ _ _ _ _
 ·exact agf _ _ _ _ _ _ _ o.1
 ·exact age _ _ _ _ _ _ _ o.1
 ·exact CO .and rfl _ _ _ _ _ _ _
 ·exact CO .or rfl _ _ _ _ _ _ _
 ·exact CO .xor rfl _ _ _ _ _ _ _
 ·exact CO .andNot rfl _ _ _ _ _ _ _
 ·exact af7 _ _ _ _ _ _ _
 ·exact agi _ _ _ _ _ _ _
 ·exact af3 _ _ _ _ _ _ _
 ·exact af4 _ _ _ _ _ _ _
 ·exact af5 _ _ _ _ _ _ _
 exact af6 _ _ _ _ _ _ _
theorem acY{a:BinOp}{t:TypeId}{m n:List UInt8}(h:IL a m n l=aa (v,e,c))(k:cy e):
  cc P H ⟨d,.binOp a t x y i,ty,pos,af,g⟩ [.t (.str m),.t (.str n)] v:=by
 unfold IL at h;split at h<;>cases h
 ·obtain⟨o,rfl⟩:=acT k.1;exact af8 _ _ _ _ _ _ o
 ·exact aeK _ _ _ _ _ _
 ·exact aeU _ _ _ _ _ _
 ·exact aeJ _ _ _ _ _ _
 ·exact aeV _ _ _ _ _ _
 ·exact aeX _ _ _ _ _ _
 exact aeW _ _ _ _ _ _
theorem NP(a:ek P cn)(h:IA (dL cn t)=ab):P.underlying t=aa .bool:=by
 unfold IA at h;split at h
 ·rename_i i c;split at h
  ·rename_i e;exact(a _ _ c).jo.1 e
  cases h
 cases h
theorem GP(a:ek P cn)(h:yj (dL cn t)=ab):P.underlying t=aa .string:=by
 unfold yj at h;split at h
 ·rename_i i c;split at h
  ·rename_i e;exact(a _ _ c).jo.2.2.1 e
  cases h
 cases h
theorem BG(a:ek P cn)(h:yu (dL cn t)=ab): ∃e,P.underlying t=aa (.slice e):=by
 unfold yu at h;split at h
 ·rename_i i c;split at h
  ·rename_i e k;exact⟨e,(a _ _ c).jo.2.2.2 e k⟩
  cases h
 cases h
theorem xl{u:Value}(h:bq W w X (.t .hn) u):u= .nilIface:=by cases h with|t _ _ h=>cases h with|hn=>rfl
theorem QC{u:Value}(h:bq W w X (.t .err) u): ∃t v,u= .iface t v:=by cases h with|t _ _ h=>cases h with|err t v=>exact⟨t,v,rfl⟩
theorem VK(w:World)(n:Nat){ms}(a:TypeId)(b:Value)(c:P.underlying t=aa (.interface ms)):(Op.equalIn (n+1) t (.iface a b) .nilIface).run P w= .ok ak w:=by simp[Op.equalIn,run_underlying c]
theorem VA(w:World)(n:Nat){ms}(a:P.underlying t=aa (.interface ms)):(Op.equalIn (n+1) t .nilIface .nilIface).run P w= .ok ab w:=by simp[Op.equalIn,run_underlying a]
theorem Oz(w:World){ms}(a:TypeId)(b:Value)(c:P.underlying t=aa (.interface ms)):(Op.equal t (.iface a b) .nilIface).run P w= .ok ak w:=VK w 9999 a b c
theorem NB(w:World){ms}(a:P.underlying t=aa (.interface ms)):(Op.equal t .nilIface .nilIface).run P w= .ok ab w:=VA w 9999 a
theorem aag(a b):binOp .eql t (.iface a b) .nilIface=(do pure (.bool (<-Op.equal t (.iface a b) .nilIface))):=rfl
theorem aaf(a b):binOp .neq t (.iface a b) .nilIface=(do pure (.bool (!(<-Op.equal t (.iface a b) .nilIface)))):=rfl
theorem aae:binOp .eql t .nilIface .nilIface=(do pure (.bool (<-Op.equal t .nilIface .nilIface))):=rfl
theorem aad:binOp .neq t .nilIface .nilIface=(do pure (.bool (!(<-Op.equal t .nilIface .nilIface)))):=rfl
theorem OA(w:World)(o:BinOp)(x y:Operand)(a:(qA x||qA y)=ab):(eqGuard o t x y .nilIface .nilIface).run P w= .ok () w:=by cases x<;>cases y<;>simp[qA] at a<;>simp[eqGuard]<;>split<;>simp
theorem aeP(x y:Operand)(e:TypeId){ms}(h:P.underlying t=aa (.interface ms)):cc P H ⟨d,.binOp .eql t x y e,ty,pos,af,g⟩ [.t .err,.t .hn] (.t (.bool ak)):=by intro k w X l _ c;obtain⟨a,b,i⟩:=QC c.1;refine⟨.bool ak,?_,.t _ _ (.bool _)⟩;simp[execOp,i,xl c.2.1,eqGuard,aag,Oz w a b h]
theorem aeO(x y:Operand)(e:TypeId){ms}(h:P.underlying t=aa (.interface ms)):cc P H ⟨d,.binOp .neq t x y e,ty,pos,af,g⟩ [.t .err,.t .hn] (.t (.bool ab)):=by intro k w X l _ c;obtain⟨a,b,i⟩:=QC c.1;refine⟨.bool ab,?_,.t _ _ (.bool _)⟩;simp[execOp,i,xl c.2.1,eqGuard,aaf,Oz w a b h]
theorem aeM(x y:Operand)(c:TypeId){ms}(e:P.underlying t=aa (.interface ms))(h:(qA x||qA y)=ab):cc P H ⟨d,.binOp .eql t x y c,ty,pos,af,g⟩ [.t .hn,.t .hn] (.t (.bool ab)):=by intro i w X k _ a;refine⟨.bool ab,?_,.t _ _ (.bool _)⟩;simp[execOp,xl a.1,xl a.2.1,OA w _ x y h,aae,NB w e]
theorem aeL(x y:Operand)(c:TypeId){ms}(e:P.underlying t=aa (.interface ms))(h:(qA x||qA y)=ab):cc P H ⟨d,.binOp .neq t x y c,ty,pos,af,g⟩ [.t .hn,.t .hn] (.t (.bool ak)):=by intro i w X k _ a;refine⟨.bool ak,?_,.t _ _ (.bool _)⟩;simp[execOp,xl a.1,xl a.2.1,OA w _ x y h,aad,NB w e]
theorem BH{a:List (Nat×cv)}(e:ek P a)(h:IG (dL a t)=ab): ∃ms,P.underlying t=aa (.interface ms):=by
 unfold IG at h;split at h
 ·rename_i i k;split at h
  ·rename_i l;obtain⟨u,n,c⟩:=e _ _ k;simp only[cv.is,l] at c;obtain⟨m,rfl⟩:=c;exact⟨m,n.1⟩
  cases h
 cases h
theorem ac4{e:List (Nat×cv)}(q:ek P e){i:BinOp}(h:IW e i t x y a b l=aa (v,m,c)):
  cc P H ⟨d,.binOp i t x y k,ty,pos,af,g⟩ [a,b] v:=by
 unfold IW at h;split at h
 ·rename_i n p;obtain⟨ms,o⟩:=BH q n;cases h;exact aeP _ _ _ o
 ·rename_i n p;obtain⟨ms,o⟩:=BH q n;cases h;exact aeO _ _ _ o
 ·rename_i n p;obtain⟨ms,o⟩:=BH q n;cases h;exact aeM _ _ _ o p
 ·rename_i n p;obtain⟨ms,o⟩:=BH q n;cases h;exact aeL _ _ _ o p
 cases h
theorem V6(w:World)(n:Nat){e}(a:Addr)(l c:Nat)(h:P.underlying t=aa (.slice e)):(Op.equalIn (n+1) t (.slice (aa a) l c) (.slice aj 0 0)).run P w= .ok ak w:=by simp[Op.equalIn,run_underlying h]
theorem acO(w:World){e}(a:Addr)(l c:Nat)(h:P.underlying t=aa (.slice e)):(Op.equal t (.slice (aa a) l c) (.slice aj 0 0)).run P w= .ok ak w:=V6 w 9999 a l c h
theorem acV(a:Addr)(l c:Nat):binOp .eql t (.slice (aa a) l c) (.slice aj 0 0)=(do pure (.bool (<-Op.equal t (.slice (aa a) l c) (.slice aj 0 0)))):=rfl
theorem adM(x y:Operand)(n:TypeId)(i:List (List T)){e}(o:P.underlying t=aa (.slice e))(p:i≠[]):cc P H ⟨d,.binOp .eql t x y n,ty,pos,af,g⟩ [.t (.bE i),.t .fT] (.t (.bool ak)):=by
 intro C w X k _ m;obtain⟨a,l,c,q⟩: ∃a l c,k x= .slice (aa a) l c:=by
  cases m.1 with|t _ _ h=>
  generalize r:k x=u at h;cases h with
  |gX=>exact bB rfl p
  |bE _ b s size A f=>exact⟨_,_,_,rfl⟩
 have B:k y= .slice aj 0 0:=by
  cases m.2.1 with|t _ _ h=>
  generalize r:k y=u at h;cases h;rfl
 refine⟨.bool ak,?_,.t _ _ (.bool _)⟩;simp[execOp,q,B,eqGuard,acV,acO w a l c o]
theorem acZ{i:List (Nat×cv)}(p:ek P i){k:BinOp}{l:TypeId}(h:IM i k t a b n=aa (v,m,c))(o:cy m):
  cc P H ⟨d,.binOp k t x y l,ty,pos,af,g⟩ [a,b] v:=by
 unfold IM at h;split at h
 ·rename_i q;obtain⟨e,r⟩:=BG p q;cases h;exact adM _ _ _ _ r o.1
 cases h
theorem Ya(x y:Operand)(e n c a k:Nat){u:TypeDesc}{z:Value}{i L:Nat}(l:P.underlying t=aa (.array n e))(m:ct P e u z i L)(q:k<n):
  cc P H ⟨d,.indexAddr t x y,ty,pos,af,g⟩ [.ref c a,.t (.int .i64 (k:Int))] (.ref c (a+k*i)):=by
 intro r w X s A h;have cY:=dP h.2.1;obtain⟨b,o,p⟩:=sM h.1;refine⟨.pointer (aa ⟨b,a+k*i,aj⟩),?_,.ref _ _ _ o⟩;simp[execOp,p,cY,Instr.indexAt,asIntOf,run_underlying l,m.run_sizeOf,kU,Instr.sureAddr]
 grind
theorem ac'(A:ek P cn){i:BinOp}{t:TypeId}(h:IJ P cn i t a b c=aa (v,e,l))(m:cy e):
  cc P H ⟨d,.binOp i t x y k,ty,pos,af,g⟩ [a,b] v:=by
 unfold IJ at h;split at h
 ·split at h
  ·rename_i B;subst B;exact ac3 h m
  cases h
 ·exact acY h m
 ·split at h
  ·rename_i n;cases h;exact aeR _ _ _ _ _ (NP A n)
  ·rename_i n;cases h;exact aeQ _ _ _ _ _ (NP A n)
  cases h
 ·split at h
  ·rename_i ms o b c p q;cases h;obtain⟨r,s,w,_⟩:=m;rw[Am p,Am q,<-w];exact abR _ _ _ _ ms o r aX (by simp[s])
  ·rename_i ms o b c p q;cases h;obtain⟨r,s,w,_⟩:=m;rw[Am p,Am q,<-w];exact abP _ _ _ _ ms o r aX (by simp[s])
  cases h
 cases h
theorem aek{e:UnOp}(h:I4 e a l=aa (v,m,c)):
  cc P H ⟨d,.unOp e t x,ty,pos,af,g⟩ [a] v:=by
 unfold I4 at h;split at h<;>cases h
 ·exact agh _ _ _
 exact afZ _ _ _ _
theorem YC(k:ek P cn){i:cv}(l:dL cn t=aa i)(h:Ha cn (aa i)=ab): ∃e,P.underlying t=aa (.slice e)/\P.underlying e=aa (.int .u8):=by
 unfold Ha at h;split at h
 ·rename_i o a;cases a;split at h
  ·rename_i e m;split at h
   ·rename_i j n;split at h
    ·rename_i c;exact⟨e,(k _ _ l).jo.2.2.2 e m,(k _ _ n).jo.2.1 _ c⟩
    cases h
   cases h
  cases h
 cases h
theorem aaS(y:ek P cn){c o:TypeId}(h:Io cn c o a p=aa (v,r,q))(s:cy r):
  cc P H ⟨d,.convert c o x,ty,pos,af,g⟩ [a] v:=by
 unfold Io at h;split at h
 ·rename_i i j F G;split at h
  ·rename_i L k n m p A;cases h;obtain⟨K,w,_⟩:=y _ _ F;have B:L.wrap n=m:=s.1;rw[<-B];exact QT _ _ _ _ _ K _ w.1 ((y _ _ G).jo.2.1 _ A)
  ·rename_i k n m p A;cases h;have B:UInt8.ofInt n=m:=s.1;rw[<-B];obtain⟨K,w,_⟩:=y _ _ F
   have:=QT (P:=P) (H:=H) (d:=d) (ty:=ty) (pos:=pos) (af:=af) (g:=g) x c o k .u8 K n w.1 ((y _ _ G).jo.2.1 _ A);rw[PY] at this;exact this
  ·rename_i C l p A;split at h
   ·rename_i Q;cases h;have B:C=l.map oH:=s.1;obtain⟨e,R,W⟩:=YC y F Q;rw[B];exact Yc _ _ _ _ _ R W ((y _ _ G).jo.2.2.1 A)
   cases h
  cases h
 cases h
theorem Xq(x:Operand)(r gen i a:Nat)(s:TypeId)(sz:Nat)(k:List (List T))(e:List T)(Q:ct P t u z size bytes)(R:ll u=ab)(F:H r=aa (.arr s gen sz k))(o:k[i]? =aa e)(U:a+size<=e.length):
  cc P H ⟨d,.load t x,ty,pos,af,g⟩ [.cK r gen sz i a] (.agg (((e.drop a).take size).map .t)):=by
 intro V w X ρ G W;obtain⟨q,K⟩:=l8 (G r _ F);obtain⟨b,y,Z⟩:=qO W.1 K;subst y;have bb:=K;rcases(G r _ F).2 with ⟨A,B⟩|⟨jf,C,A,B,h3,f,D⟩
 ·rw[B] at o;simp at o
 rw[bb] at A;cases A;have I:i<k.length:=(bS.1 o).1;have M:e.length=sz:=f e (bx o);have p: ∀j,j<size->i*sz+a+j<C.size:=by
  intro j n
  have:(i+1)*sz<=k.length*sz:=eh _ I;rw[eu] at this;omega
 have l: ∀j,j<size->w.cell? ⟨b,i*sz+a+j,aj⟩=aa (C.getD (i*sz+a+j) undef):=λj n=>by
  have:=p j n;simp[World.cell?,B,this]
 refine⟨_,by simp[execOp,Z,Instr.loadAt,Instr.sureAddr,Q.Ex w R l];rfl,?_⟩;refine .agg _ _ bQ λj c v h L=>?_;have n:j<size:=by
  have:=(bS.1 h).1;simp at this;omega
 rw[eL,List.getElem?_take_of_lt n,gZ] at h;simp only[List.getElem?_toArray,List.getElem?_map,List.getElem?_range n,hv,Option.some.injEq] at L;cases m:e[a+j]? with
 |none=>rw[m] at h;simp at h
 |some N=>
  rw[m] at h;simp at h;rw[<-h]
  have:=p j n;have S:=D i (a+j) e N C[i*sz+a+j] o m (by rw[<-q8];simp[this]);rw[<-L];simp only[Array.getElem?_eq_getElem this,Option.getD_some];exact .t _ _ S
theorem Oy(K:ek P cn)(h:u6 cn H t a l=aa (v,e,n))(w:cy e):
  cc P H ⟨d,.load t x,ty,pos,af,g⟩ [a] v:=by
 unfold u6 at h;split at h
 ·cases h
 rename_i i L;obtain⟨Q,q,m⟩:=(K _ _ L).agg;split at h
 ·rename_i id B;split at h
  ·rename_i cs s;split at h
   ·rename_i o;split at h
    ·rename_i p;cases h;exact adN _ _ _ _ q (m.trans o) s p
    cases h
   rename_i o;split at h
   ·rename_i c C;cases h;exact adO _ _ _ _ _ q (m.trans o) s C
   cases h
  cases h
 ·rename_i cs;split at h
  ·rename_i o;split at h
   ·rename_i p;cases h;exact YW _ _ q (m.trans o) (eP p)
   cases h
  rename_i o;split at h
  ·cases h;exact YX _ _ _ q (m.trans o)
  cases h
 ·rename_i id gen R k B;split at h
  ·rename_i y F A r l s o;split at h
   ·rename_i c C;cases h;obtain⟨rfl,rfl,G,_⟩:=w;exact Xr _ _ _ _ _ _ _ _ _ _ q (m.trans o) s G C
   cases h
  ·rename_i y F A r l s o;split at h
   ·rename_i p;cases h;obtain⟨rfl,rfl,G,_⟩:=w;exact Xq _ _ _ _ _ _ _ _ _ q (m.trans o) s G (eP p)
   cases h
  cases h
 cases h
theorem NA{j:Nat}: ∀{c:List (Nat×Nat×V)},ta j c=aj-> ∀i v,(i,j,v)∉c
 | [],_,_,_,h=>by cases h
 |h::c,a,i,v,hm=>by
  simp only[ta] at a;cases e:b5 h.2.1 j with
  |true=>rw[e] at a;cases a
  |false=>
   rw[e] at a;rcases ez.1 hm with rfl|hm
   ·simp at e
   exact NA a i v hm
theorem Gm{j:Nat}{x:Nat×V}: ∀{c:List (Nat×Nat×V)},ta j c=aa x->(x.1,j,x.2)∈c
 |h::c,a=>by
  simp only[ta] at a;cases e:b5 h.2.1 j with
  |true=>
   rw[e] at a;cases a
   have:=de e;subst this;exact eD
  |false=>rw[e] at a;exact eo _ (Gm a)
theorem xq{I:List (Nat×Nat×V)}{k:Nat}: ∀{n j:Nat} {l:List (Nat×V)},sY I j n=aa l->cy (s0 k l)->l.length=n/\ ∀i v,(l.map (·.2))[i]? =aa v->(k,j+i,v)∈I
 |0,_,_,h,_=>by cases h;exact⟨rfl,λi v h=>by simp at h⟩
 |n+1,j,l,h,a=>by
  simp only[sY] at h;split at h
  ·rename_i x p m o;cases h;simp only[s0] at a;obtain⟨e,a⟩:=a;obtain⟨aN,a2⟩:=xq o a;refine⟨by simp[aN],λi v c=>?_⟩;cases i with
   |zero=>
    simp at c;subst c
    have:=Gm m;rw[e] at this;exact this
   |succ i=>
    have:=a2 i v (by simpa using c)
    rwa [show j+1+i=j+(i+1) by omega] at this
  cases h
theorem Zu(X:ek P cn){W Z:List cB}{M:List dE}(h:H5 cn H t a W=aa (v,M,Z))(o:cy M):
  cc P H ⟨d,.load t x,ty,pos,af,g⟩ [a] v:=by
 unfold H5 at h;split at h
 ·rename_i i id gen N k L r W Q;obtain⟨S,y,n⟩:=(X _ _ Q).agg;split at h
  ·rename_i A m B e R C;split at h
   ·rename_i w;split at h
    ·rename_i c F G;split at h
     ·rename_i b;cases h;obtain⟨rfl,p,s,_⟩:=o;exact Fb _ _ _ _ _ A m _ e R r c _ y (n.trans w) C p s F (.inr ⟨λv=>NA G _ _,b,rfl⟩)
     cases h
    ·rename_i c T U F G;cases h;obtain⟨rfl,p,s,rfl,_⟩:=o;exact Fb _ _ _ _ _ A m _ e _ r c _ y (n.trans w) C p s F (.inl (Gm G))
    cases h
   rename_i w;split at h
   ·rename_i l f G;cases h;obtain⟨rfl,p,s,K⟩:=o;obtain⟨D,I⟩:=xq G K;exact L8 _ _ _ _ _ A m _ e R r _ y (n.trans w) C p s (eP f) (by simp[D]) I
   cases h
  cases h
 ·rename_i i id gen N k L q r W Q;obtain⟨S,y,n⟩:=(X _ _ Q).agg;split at h
  ·rename_i A m B e R C;split at h
   ·rename_i c T eH U w F K;cases h;obtain⟨rfl,p,s,rfl,rfl,_⟩:=o;exact Fb _ _ _ _ _ A m _ e _ r c _ y (n.trans w) C p s F (.inl (bx K))
   ·rename_i w;split at h
    ·rename_i l f G;cases h;obtain⟨rfl,p,s,K⟩:=o;obtain⟨D,I⟩:=xq G K;exact L8 _ _ _ _ _ A m _ e R r _ y (n.trans w) C p s (eP f) (by simp[D]) λj v bW=>fq (I j v bW)
    cases h
   cases h
  cases h
 ·rename_i i id gen N k L q r W Q;obtain⟨S,y,n⟩:=(X _ _ Q).agg;split at h
  ·rename_i A m B e R C;split at h
   ·rename_i c w F b;cases h;obtain⟨rfl,p,s,K⟩:=o;exact Fb _ _ _ _ _ A m _ e _ r c _ y (n.trans w) C p s F (.inr ⟨x4 K,b,rfl⟩)
   cases h
  cases h
 cases h
theorem Zw(C:ek P cn){k:Nat}(h:H7 cn H t k a l=aa (v,m,c))(r:cy m):
  cc P H ⟨d,.fieldAddr t x k,ty,pos,af,g⟩ [a] v:=by
 unfold H7 at h;split at h
 ·cases h
 rename_i i K;split at h
 ·rename_i W L;obtain⟨s,y,A,_⟩:=(C _ _ K).st L;have w:P.underlying t=aa (.struct s):=y.1;split at h
  ·cases h
  rename_i F n;rw[<-A,eL] at n;cases q:s[k]? with
  |none=>rw[ra,q] at n;cases n
  |some Q=>
  rw[ra,q] at n;simp only[hv,Option.some.injEq] at n;subst n;split at h
  ·cases h
  rename_i j R;obtain⟨X,o,_⟩:=C _ _ R;split at h
  ·cases h
  rename_i G;have p:(j.size==0)=ak:=by
   rw[beq_eq_false_iff_ne];intro e;rw[e] at G;cases G
  split at h
  ·cases h;exact Yb _ _ _ _ _ _ _ _ _ _ _ w q rfl o p
  ·cases h;exact Y0 _ _ _ _ _ _ _ _ _ _ w q rfl o p
  ·split at h
   ·rename_i B;cases h;obtain⟨rfl,rfl,_⟩:=r;exact Xt _ _ _ _ _ _ _ _ _ _ _ _ _ _ w q rfl o p _ _ B
   ·rename_i B;cases h;obtain⟨rfl,_⟩:=r;exact Xu _ _ _ _ _ _ _ _ _ _ _ _ _ _ w q rfl o p _ B rfl
   cases h
  cases h
 cases h
theorem ac7(y:ek P cn){k:Nat}(h:IY cn t k a l=aa (v,e,c)):
  cc P H ⟨d,.field t x k,ty,pos,af,g⟩ [a] v:=by
 unfold IY at h;split at h
 ·cases h
 rename_i i B;split at h
 ·rename_i Q C;obtain⟨r,n,s,_⟩:=(y _ _ B).st C;split at h
  ·cases h
  rename_i A m;rw[<-s,eL] at m;cases q:r[k]? with
  |none=>rw[ra,q] at m;cases m
  |some F=>
  rw[ra,q] at m;simp only[hv,Option.some.injEq] at m;subst m;split at h
  ·cases h
  rename_i j G;obtain⟨R,o,p⟩:=(y _ _ G).agg;split at h
  ·split at h
   ·rename_i w;split at h
    ·rename_i K;cases h;exact O6 _ _ _ _ _ _ n q o (.inl ⟨p.trans w,K,rfl⟩)
    cases h
   rename_i w;split at h
   ·rename_i L;cases h;exact O6 _ _ _ _ _ _ n q o (.inr ⟨p.trans w,L⟩)
   cases h
  cases h
 cases h
theorem mC{n:Int}(h:0<=n):n=((n.toNat:Nat):Int):=O
theorem ac5(G:ek P cn){o:List dE}(h:IX cn H t a b c=aa (v,o,l))(q:cy o):
  cc P H ⟨d,.indexAddr t x y,ty,pos,af,g⟩ [a,b] v:=by
 unfold IX at h;split at h
 ·cases h
 rename_i i f;split at h
 ·rename_i e K;have B:P.underlying t=aa (.slice e):=(G _ _ f).jo.2.2.2 e K;split at h
  ·cases h
  rename_i j L;obtain⟨D,C,_⟩:=G _ _ L;split at h
  ·rename_i p n;split at h
   ·rename_i r c;split at h
    ·rename_i w;cases h;obtain⟨Q,R⟩:=nF (show ax p n=aa r from q.1);rw[mC Q];exact YZ _ _ _ _ _ _ B C R (de w)
    cases h
   cases h
  ·rename_i id gen size A len n;split at h
   ·rename_i s I p W w;cases h;obtain⟨rfl,rfl,⟨Q,R⟩,_⟩:=q;have X:n.toNat<len:=O
    have:=de w;subst this;have M:=X' (P:=P) (H:=H) (d:=d) (ty:=ty) (pos:=pos) (af:=af) (g:=g) x y e id s A len n.toNat _ _ W B C X
    grind
   ·rename_i m s p N W w;cases h;obtain⟨rfl,⟨Q,R⟩,_⟩:=q;have X:n.toNat<len:=O
    have:=de w;subst this;have M:=Xs (P:=P) (H:=H) (d:=d) (ty:=ty) (pos:=pos) (af:=af) (g:=g) x y e id _ A len n.toNat _ W rfl B C X
    grind
   cases h
  cases h
 ·rename_i m e K;obtain⟨S,Z,F⟩:=G _ _ f;have B:P.underlying t=aa (.array m e):=by
   simp only[cv.is,K] at F;rw[<-F];exact Z.1
  split at h
  ·cases h
  rename_i j L;obtain⟨D,C,_⟩:=G _ _ L;split at h
  ·rename_i id A n k c;split at h
   ·rename_i w;cases h;rw[show n=(k:Int) from q.1];exact Ya _ _ _ _ _ _ _ B C (eP w)
   cases h
  cases h
 cases h
theorem Zv(k:ek P cn)(h:H6 cn t a b q=aa (v,e,p))(i:cy e):
  cc P H ⟨d,.index t x y,ty,pos,af,g⟩ [a,b] v:=by
 unfold H6 at h;split at h
 ·rename_i l n c q m;cases h;obtain⟨o,r⟩:=nF (show ax l n=aa c from i.1);rw[mC o];exact abO _ _ _ _ _ (GP k m) r
 cases h
theorem ac2(o:ek P cn)(h:IU cn H t a l=aa (v,m,c))(i:cy m):
  cc P H ⟨d,.call {callee:= .builtin .len,args:= #[x],argTypes:= #[t]},ty,pos,af,g⟩ [a] v:=by
 unfold IU at h;split at h
 ·split at h
  ·rename_i k;cases h;exact aap _ _ (GP o k)
  cases h
 ·split at h
  ·rename_i k;cases h;obtain⟨e,n⟩:=BG o k;have q:=i.1;rw[<-q];exact abQ _ _ _ n
  cases h
 ·split at h
  ·rename_i p k;cases h;obtain⟨rfl,rfl,rfl,_⟩:=i;obtain⟨e,n⟩:=BG o k;exact aaq _ _ _ _ _ _ _ n _ _ p
  ·rename_i p k;cases h;obtain⟨rfl,rfl,_⟩:=i;obtain⟨e,n⟩:=BG o k;exact YY _ _ _ _ _ _ _ n _ p rfl
  cases h
 cases h
theorem Zt(K:ek P cn){y A:Option Operand}{B:List V}{f S:List cB}{nh:List dE}(h:H4 cn H t y A B f=aa (v,nh,S))(n:cy nh):
  cc P H ⟨d,.slice t x y A aj,ty,pos,af,g⟩ B v:=by
 unfold H4 at h;split at h
 ·rename_i l I;split at h
  ·rename_i a b r f T c;cases h;obtain⟨k,U,M,rfl⟩:=Bx n.1;have p:=GP K T;unfold tb at c;split at c
   ·cases c;rw[mC k,mC (O:0<=b)];exact XA _ _ _ _ _ _ p O O
   ·cases c
    have:=Vy (P:=P) (H:=H) (d:=d) (ty:=ty) (pos:=pos) (af:=af) (g:=g) x ‹_› l a.toNat p O;rw[<-mC k] at this;simpa using this
   ·cases c
    have:=VQ (P:=P) (H:=H) (d:=d) (ty:=ty) (pos:=pos) (af:=af) (g:=g) x ‹_› l b.toNat p O
    grind
   cases c
  cases h
 ·rename_i C I;split at h
  ·cases h
  rename_i i L;split at h
  ·rename_i e hu;have p:P.underlying t=aa (.slice e):=(K _ _ L).jo.2.2.2 e hu;split at h
   ·rename_i j a b r f Q c;cases h;obtain⟨D,F,_⟩:=n;obtain⟨k,U,M,rfl⟩:=Bx D;obtain⟨rZ,s,_⟩:=K _ _ Q;unfold tb at c;split at c
    ·cases c;rw[mC k,mC (O:0<=b)];exact YT _ _ _ _ _ _ _ p s O O F
    ·cases c
     have:=VG (P:=P) (H:=H) (d:=d) (ty:=ty) (pos:=pos) (af:=af) (g:=g) x ‹_› e C a.toNat p s O F;rw[<-mC k] at this;simpa using this
    ·cases c
     have:=Xb (P:=P) (H:=H) (d:=d) (ty:=ty) (pos:=pos) (af:=af) (g:=g) x ‹_› e C b.toNat p s O F
     grind
    cases c
   cases h
  cases h
 ·rename_i id al0 sz R q I;split at h
  ·rename_i i mE L N;split at h
   ·rename_i e hu;have p:P.underlying t=aa (.slice e):=(K _ _ L).jo.2.2.2 e hu;obtain⟨Jh,hH,N⟩:=Option.bind_eq_some_iff.1 N;have W: ∀{a b:Int},tb y A q I=aa (a,b)->0<=a->0<=b-> ∀β w X (G:Operand->Value),dH β w X I (y.toList.map G++A.toList.map G)->rB q y A G a.toNat b.toNat:=by
     intro a b c D k β w X G F;unfold tb at c;split at c
     ·cases c;refine⟨?_,?_⟩
      ·show G _=_;rw[zW D];exact dP F.1
      show G _=_;rw[zW k];exact dP F.2.1
     ·cases c;refine⟨?_,by show _=_;simp⟩;show G _=_;rw[zW D];exact dP F.1
     ·cases c;refine⟨by show _=_;simp,?_⟩;show G _=_;rw[zW k];exact dP F.1
     cases c
    split at h
    ·rename_i j a b o m f Q c;cases h;obtain⟨rfl,rfl,⟨k,U,M,h4,rfl,rfl⟩,_⟩:=n;obtain⟨rZ,s,_⟩:=K _ _ Q;exact aeT x y A e id _ R q a.toNat b.toNat Jh hH N p s O O O (W c k O)
    ·rename_i j a b f Q c;cases h;obtain⟨rfl,⟨k,rfl,M⟩,_⟩:=n;obtain⟨rZ,s,_⟩:=K _ _ Q;exact adL x y A e id _ _ R q a.toNat Jh hH N p s O (W c k k)
    ·rename_i j a b o m f Q c;split at h
     ·rename_i Z;cases h;obtain⟨rfl,rfl,rfl,⟨D,k,U,M,rfl,rfl⟩,_⟩:=n;obtain⟨rZ,s,_⟩:=K _ _ Q;exact adK x y A e _ id _ R q a.toNat b.toNat _ Z p s D O O (W c k O)
     cases h
    cases h
   cases h
  cases h
 cases h
theorem Yq(B:ek P cn){m n:Operand}{k:List V}(h:Hu cn H t k p=aa (v,r,l))(o:cy r):
  cc P H ⟨d,.slice t x (aa y) (aa m) (aa n),ty,pos,af,g⟩ k v:=by
 unfold Hu at h;split at h
 ·rename_i id W X q s a b c;split at h
  ·rename_i i Z w A;split at h
   ·rename_i e C;have F:P.underlying t=aa (.slice e):=(B _ _ w).jo.2.2.2 e C;obtain⟨G,K,A⟩:=Option.bind_eq_some_iff.1 A;split at h
    ·rename_i j L;cases h;obtain⟨rfl,⟨Q,f,D,I⟩,_⟩:=o;obtain⟨M,R,_⟩:=B _ _ L;rw[mC Q,mC (O:0<=b),mC (O:0<=c)];exact abN x y m n e id _ _ q s a.toNat b.toNat c.toNat G K A F R O O O
    cases h
   cases h
  cases h
 cases h
theorem aaT(o:ek P cn){m:Operand}{a:List V}(h:Ip cn t a l=aa (v,r,c))(k:cy r):
  cc P H ⟨d,.slice t x aj (aa y) (aa m),ty,pos,af,g⟩ a v:=by
 unfold Ip at h;split at h
 ·split at h
  ·rename_i i n;split at h
   ·rename_i e p;have q:P.underlying t=aa (.slice e):=(o _ _ n).jo.2.2.2 e p;split at h
    ·rename_i j s;cases h;obtain⟨⟨w,rfl⟩,A,_⟩:=k;obtain⟨F,G,B,rfl⟩:=Bx w;obtain⟨K,C,_⟩:=o _ _ s
     have:=Xo (P:=P) (H:=H) (d:=d) (ty:=ty) (pos:=pos) (af:=af) (g:=g) x y m e _ _ q C (Int.toNat_le.2 B) A
     grind
    cases h
   cases h
  cases h
 cases h
theorem XW(o:ek P cn){b:Builtin}{c:List TypeId}{e:List Operand}{a:List V}(h:GA cn H b c e a n=aa (v,m,l))(i:cy m):
  cc P H ⟨d,.call {callee:= .builtin b,args:=e.toArray,argTypes:=c.toArray},ty,pos,af,g⟩ a v:=by
 unfold GA at h;split at h
 ·exact ac2 o h i
 ·split at h
  ·rename_i k;subst k;cases h;exact af2 _ _ _ _ _ _
  cases h
 ·split at h
  ·rename_i k;subst k;cases h;exact af1 _ _ _ _ _ _
  cases h
 cases h
theorem ac0(h:IP H a l=aa (v,e,c))(i:cy e):cc P H ⟨d,.nilCheck x,ty,pos,af,g⟩ [a] v:=by
 unfold IP at h;split at h
 ·split at h
  ·rename_i o k;cases h;obtain⟨rfl,_⟩:=i;obtain⟨m,n,k⟩:=Option.bind_eq_some_iff.1 k;exact X9 _ _ _ _ _ _ m n k
  cases h
 ·cases h;exact MP _ _ rfl
 ·cases h;exact MP _ _ rfl
 ·cases h;exact X8 _ _ _
 cases h
theorem Zy(p:ek P cn){c:Array (Nat×Operand)}{a:List V}(h:H9 cn t (c.toList.map (·.1)) a n=aa (v,e,l)):
  cc P H ⟨d,.build t c,ty,pos,af,g⟩ a v:=by
 unfold H9 at h;split at h
 ·cases h
 rename_i i q;split at h
 ·rename_i y r;split at h
  ·rename_i cs s w x;cases h;obtain⟨k,m,_,o⟩:=(p _ _ q).st r;exact adP c k i.places a cs m o s (by simpa using w) x
  cases h
 cases h
theorem ae'(k:ek P cn){e:Op}{a:List V}(h:yI P cn H e a n=aa (v,m,l))(i:cy m):
  cc P H ⟨d,e,ty,pos,af,g⟩ a v:=by
 unfold yI at h;split at h
 ·split at h
  ·cases h;exact aeN _ _
  cases h
 ·split at h
  ·cases h;exact abS _ _
  cases h
 ·split at h
  ·rename_i b v w c n;cases h;obtain⟨s,_⟩:=i;subst s;cases b
   ·exact Xp _ _ _ _ _
   exact XB _ _ _ _ _
  cases h
 ·split at h
  ·split at h
   ·rename_i x;cases h;exact Oy k x i
   exact Zu k h i
  cases h
 ·split at h
  ·exact ac0 h i
  cases h
 ·split at h
  ·split at h
   ·rename_i r p;cases h;exact ac' k p i
   split at h
   ·rename_i r p;cases h;exact ac4 k p
   exact acZ k h i
  cases h
 ·split at h
  ·exact aek h
  cases h
 ·split at h
  ·exact aaS k h i
  cases h
 ·rename_i C first q
  split at h
  ·rename_i f y;cases h
   have:first= #[]:=by simpa using y
   subst this;exact YV _ _ _
  cases h
 ·split at h
  ·exact Zt k h i
  split at h
  ·exact Yq k h i
  ·exact aaT k h i
  cases h
 ·split at h
  ·exact Zw k h i
  cases h
 ·split at h
  ·exact ac7 k h
  cases h
 ·split at h
  ·exact ac5 k h i
  cases h
 ·split at h
  ·exact Zv k h i
  cases h
 ·split at h
  ·split at h
   ·rename_i A;cases h;exact aar _ _ _ _ A
   cases h
  cases h
 ·exact Zy k h
 ·rename_i c;obtain⟨o,args,B⟩:=c;dsimp only at h;split at h
  ·have:=XW (d:=d) (ty:=ty) (pos:=pos) (af:=af) (g:=g) k h i;simpa using this
  cases h
 cases h
end
section
def lR(P:Program)(G:fL)(f:FuncId)(args:List V)(r:V):Prop:=j2 P f/\F4 P G f args r
def jW(P:Program)(G:fL)(f:FuncId)(a:List E)(args:List V)(r:V)(c:List E):Prop:=
 j2 P f/\LK P G f a args (ι:=Unit) (λ_=>True) (λ_=>r) λ_=>c
def fK(d:Option Tmp)(v:V):List (Nat×V):=match d with
 |some d=>[(d,v)]
 |none=>[]
def kR(a:Nat):Option Tmp->Bool
 |some d=>dt d a
 |none=>ab
theorem h7{K:Ctx}{d:Option Tmp}(h:kR K.nt d=ab): ∀i,d=aa i->dt i K.nt=ab:=by intro i a;subst a;exact h
def jM:T->T
 | .fT=> .bE []
 |x=>x
variable {w:World}{X:Nat->Prop}{m:Nat}
theorem df.zr{x:T}{v:Value}(h:df w X x v):df w X (jM x) v:=by
 cases h with
 |fT=>exact .gX _ _
 |bool b=>exact .bool b
 |int k n=>exact .int k n
 |str l=>exact .str l
 |gX a c=>exact .gX a c
 |bE e b m size c f p q i o r y=>exact .bE e b m size c f p q i o r y
 |iA=>exact .iA
 |hn=>exact .hn
 |oC=>exact .oC
 |err t v=>exact .err t v
theorem acM{W:Map}{k:Nat}{c:TypeId}{gen n:Nat}{z:List T}(h:cX W w X k (.arr c gen n (dA m z))):cX W w X k (.arr c gen n (dA m (z.map jM))):=by
 refine⟨h.1,?_⟩;rcases h.2 with ⟨q,l⟩|⟨b,r,q,l,A,F,B⟩
 ·have:m=0:=by simpa using l
  grind
 refine .inr ⟨b,r,q,l,by simpa using A,λo a=>?_,λi j o x u a e C=>?_⟩
 ·obtain⟨G,rfl⟩:=uF.1 a
  grind
 rw[uE] at a;split at a
 ·cases a;rw[eL] at e;cases p:z[j]? with
  |none=>rw[p] at e;simp at e
  |some y=>
   rw[p] at e;simp at e;subst e;exact(B i j z y u (by rw[uE,aR ‹_›]) p C).zr
 cases a
def mj(a:Nat):Nat->List T->List (List T)
 |0,_=>[]
 |n+1,l=>l.take a::mj a n (l.drop a)
theorem BR(a:Nat): ∀(n:Nat) (l:List T),l.length=n*a->(mj a n l).length=n/\(∀c,c∈mj a n l->c.length=a)/\(mj a n l).flatten=l
 |0,l,h=>by
  have:l=[]:=by simpa using h
  subst this;exact⟨rfl,λ_ h=>by simp[mj] at h,rfl⟩
 |n+1,l,h=>by
  rw[eu] at h;obtain⟨e,i,k⟩:=BR a n (l.drop a) bQ;refine⟨by simp[mj,e],?_,by simp[mj,k]⟩;intro c b8;simp only[mj,List.mem_cons] at b8;rcases b8 with rfl|b8
  ·simp;omega
  exact i c b8
structure eb where
 P:Program
 G:fL
 cn:List (Nat×cv)
 nt:Nat
 dV:Nat
 hb:Map
def vg(a:Nat):List Nat->Nat->Option Nat
 | [],_=>aj
 |x::r,k=>bif b5 x a then aa k else vg a r (k+1)
theorem BJ{i:Nat}: ∀{L:List Nat} {k m:Nat},vg i L k=aa m->k<=m/\L[m-k]? =aa i
 | [],_,_,h=>by cases h
 |x::r,k,m,h=>by
  simp only[vg] at h;cases a:b5 x i with
  |true=>rw[a] at h;cases h;rw[de a];exact⟨cR _,aX⟩
  |false=>
   rw[a] at h;obtain⟨e,c⟩:=BJ (L:=r) (k:=k+1) h;refine⟨O,?_⟩;rw[show m-k=(m-(k+1))+1 by omega];simpa using c
mutual
def uC(L:List Nat):V->Option V
 | .ref id a=>match vg id L 0 with
  |some k=>aa (.ref k a)
  |none=>aj
 | .bg id gen size a c=>match vg id L 0 with
  |some k=>aa (.bg k gen size a c)
  |none=>aj
 | .fn f cs=>match uB L cs with
  |some cs=>aa (.fn f cs)
  |none=>aj
 | .cK id gen size i a=>match vg id L 0 with
  |some k=>aa (.cK k gen size i a)
  |none=>aj
 | .t x=>aa (.t x)
 | .aS x=>aa (.aS x)
 | .agg cs=>match uB L cs with
  |some cs=>aa (.agg cs)
  |none=>aj
 |_=>aj
def uB(L:List Nat):List V->Option (List V)
 | []=>aa []
 |c::cs=>match uC L c,uB L cs with
  |some c,aa cs=>aa (c::cs)
  |_,_=>aj
end
mutual
theorem afE{L:List Nat}: ∀(v e:V),uC L v=aa e->e.eB L=v/\e.ok (fA L.length)=ab
 | .ref id n,e,h=>by
  simp only[uC] at h;split at h
  ·rename_i k o;cases h;obtain⟨_,a⟩:=BJ o;simp only[Nat.sub_zero] at a;have c:=(bS.1 a).1;exact⟨by simp[V.eB,List.getD_eq_getElem?_getD,a],jZ.2 c⟩
  cases h
 | .bg id gen size n q,e,h=>by
  simp only[uC] at h;split at h
  ·rename_i k o;cases h;obtain⟨_,a⟩:=BJ o;simp only[Nat.sub_zero] at a;have c:=(bS.1 a).1;exact⟨by simp[V.eB,List.getD_eq_getElem?_getD,a],jZ.2 c⟩
  cases h
 | .cK id gen size i n,e,h=>by
  simp only[uC] at h;split at h
  ·rename_i k o;cases h;obtain⟨_,a⟩:=BJ o;simp only[Nat.sub_zero] at a;have c:=(bS.1 a).1;exact⟨by simp[V.eB,List.getD_eq_getElem?_getD,a],jZ.2 c⟩
  cases h
 | .fn f cs,e,h=>by
  simp only[uC] at h;split at h
  ·rename_i l m;cases h;obtain⟨p,a⟩:=yb cs l m;exact⟨by simp[V.eB,p],by simpa[V.ok] using a⟩
  cases h
 | .agg cs,e,h=>by
  simp only[uC] at h;split at h
  ·rename_i l m;cases h;obtain⟨p,a⟩:=yb cs l m;exact⟨by simp[V.eB,p],by simpa[V.ok] using a⟩
  cases h
 | .t x,e,h=>by cases h;exact⟨rfl,rfl⟩
 | .aS x,e,h=>by cases h;exact⟨rfl,rfl⟩
 | .bM _,_,h| .dh,_,h=>by cases h
theorem yb{L:List Nat}: ∀(cs a:List V),uB L cs=aa a->jL L a=cs/\hl (fA L.length) a=ab
 | [],_,h=>by cases h;exact⟨rfl,rfl⟩
 |c::cs,a,h=>by
  simp only[uB] at h;split at h
  ·rename_i i e k l;cases h;obtain⟨aN,a2⟩:=afE c i k;obtain⟨m,n⟩:=yb cs e l;exact⟨by simp[jL,aN,m],by simp[hl,a2,n]⟩
  cases h
end
def vf(L:List Nat)(H:Nat->Option E):List Nat->Option (List E)
 | []=>aa []
 |id::c=>match H id with
  |some (.cells cs)=>match uB L cs,vf L H c with
   |some cs,aa e=>aa (.cells cs::e)
   |_,_=>aj
  |some (.arr ty gen size a)=>match vf L H c with
   |some e=>aa (.arr ty gen size a::e)
   |none=>aj
  |some (.a7 h m gen a [])=>match vf L H c with
   |some e=>aa (.a7 h m gen a []::e)
   |none=>aj
  |some (.a7 _ _ _ _ (_::_))=>aj
  |none=>aj
theorem BI{L:List Nat}{H:Nat->Option E}: ∀(a:List Nat) (hM:List E),vf L H a=aa hM->hM.length=a.length/\ ∀(k:Nat) (e:E),hM[k]? =aa e-> ∃id,a[k]? =aa id/\H id=aa (e.eB L)/\e.ok (fA L.length)=ab
 | [],_,h=>by cases h;exact⟨rfl,λk e h=>by simp at h⟩
 |id::a,hM,h=>by
  simp only[vf] at h;split at h
  ·rename_i cs hid;split at h
   ·rename_i r l w n;cases h;obtain⟨aN,a2⟩:=BI a l n;obtain⟨x,y⟩:=yb cs r w;refine⟨by simp[aN],λk e c=>?_⟩;cases k with
    |zero=>simp at c;subst c;exact⟨id,rfl,by rw[hid];simp only[E.eB,x],y⟩
    |succ k=>simp at c;obtain⟨i,o,p⟩:=a2 k e c;exact⟨i,by simpa using o,p⟩
   cases h
  ·rename_i ty gen size q hid;split at h
   ·rename_i l n;cases h;obtain⟨aN,a2⟩:=BI a l n;refine⟨by simp[aN],λk e c=>?_⟩;cases k with
    |zero=>simp at c;subst c;exact⟨id,rfl,hid,rfl⟩
    |succ k=>simp at c;obtain⟨i,o,p⟩:=a2 k e c;exact⟨i,by simpa using o,p⟩
   cases h
  ·rename_i A m gen q hid;split at h
   ·rename_i l n;cases h;obtain⟨aN,a2⟩:=BI a l n;refine⟨by simp[aN],λk e c=>?_⟩;cases k with
    |zero=>simp at c;subst c;exact⟨id,rfl,hid,rfl⟩
    |succ k=>simp at c;obtain⟨i,o,p⟩:=a2 k e c;exact⟨i,by simpa using o,p⟩
   cases h
  ·cases h
  cases h
def CY(a:Nat):List Nat->Bool
 | []=>ab
 |x::l=>bif b5 x a then ak else CY a l
theorem Oq{i:Nat}: ∀{l:List Nat},CY i l=ab->i∉l
 | [],_,h=>by cases h
 |x::l,h,hm=>by
  simp only[CY] at h;cases a:b5 x i with
  |true=>rw[a] at h;cases h
  |false=>
   rw[a] at h;rcases ez.1 hm with rfl|hm
   ·simp at a
   exact Oq h hm
def CM:List Nat->Bool
 | []=>ab
 |x::l=>CY x l&&CM l
theorem Be: ∀{l:List Nat},CM l=ab->l.Nodup
 | [],_=>List.nodup_nil
 |x::l,h=>by simp only[CM,b9] at h;exact List.nodup_cons.2 ⟨Oq h.1,Be h.2⟩
def Cc(u:Nat->Bool):List Nat->Bool
 | []=>ab
 |x::l=> !u x&&Cc u l
theorem MC{u:Nat->Bool}: ∀{l:List Nat},Cc u l=ab-> ∀id,id∈l->u id=ak
 | [],_,_,h=>by cases h
 |x::l,h,id,hm=>by
  simp only[Cc,b9,Bool.not_eq_true'] at h;rcases ez.1 hm with rfl|hm
  ·exact h.1
  exact MC h.2 id hm
theorem MQ{u:Nat->Bool}{i:Nat}: ∀{l:List Nat},i∈l->dw u (l.map λk=>(k,ab)) i=ab
 |x::l,h=>by
  simp only[gf,dw];by_cases a:i∈l
  ·rw[Cu _ _ u _ ⟨ab,eA.2 ⟨i,a,rfl⟩⟩];exact MQ a
  rcases ez.1 h with rfl|h
  ·rw[nB _ _ _ (λv c=>a (by obtain⟨y,m,e⟩:=eA.1 c;cases e;exact m)),cd]
  exact bB h a
theorem MO{R:Type}: ∀(L:List Nat),L.Nodup-> ∀(f:Nat->R) (a:List R) (g:Nat->R),a.length=L.length->(∀(k:Nat) x,a[k]? =aa x->g k=x)->dw f (L.zip a)=l4 f L g
 | [],_,f,a,g,_,_=>by simp[dw,l4]
 |l::L,c,f,[],g,h,_=>by simp at h
 |l::L,c,f,x::a,g,h,n=>by
  simp only[List.nodup_cons] at c;simp only[List.zip_cons_cons,dw,l4];rw[MO L c.2 (a8 f l x) a (λk=>g (k+1)) (by simpa using h) (λk y p=>n (k+1) y (by simpa using p)),n 0 x rfl];funext i;by_cases e:i=l
  ·subst e;rw[ov c.1,cd,cd]
  rw[cb _ _ _ _ e];by_cases m:i∈L
  ·obtain⟨k,o⟩:=jQ.1 m;rw[pq c.2 o,pq c.2 o]
  rw[ov m,ov m,cb _ _ _ _ e]
abbrev jV:=Option (c8×List dE×List cB)
def vr(d:Option Tmp)(u:Nat->Bool)(v:V)(a:List cB):jV:=
 match a with
 | .nat k::a=>match u k,v.val with
  |false,ab=>aa (⟨fK d (.ref k 0),[(k,aa (.cells v.cs))],[(k,ab)]⟩,[],a)
  |_,_=>aj
 |_=>aj
def Ir(d:Option Tmp)(v:V)(a:List cB):jV:=
 match a with
 | .b ab::a=>match (oD v).val,mx (oD v).cs with
  |true,aa c=>aa (⟨fK d (.aS c),[],[]⟩,[],a)
  |_,_=>aj
 |_=>aj
def Ta:List cB->Bool
 | .b ab::_=>ab
 |_=>ak
def H3(C:eb)(t:TypeId)(H:Nat->Option E)(a v:V)(o:List cB):jV:=
 match dL C.cn t with
 |none=>aj
 |some i=>match a with
  | .ref id c=>match H id with
   |some (.cells cs)=>match v.val,oR v.cs,b5 v.cs.length i.size,db (c+i.size) cs.length with
    |true,ab,ab,ab=>aa (⟨[],[(id,aa (.cells (nO cs c v.cs)))],[]⟩,[],o)
    |_,_,_,_=>aj
   |_=>aj
  | .cK id gen x k c=>match H id,mx (oD v).cs,o with
   |some (.arr e l n m),aa w,.row r:: .rows h::o=>match (oD v).val,b5 w.length i.size,db (c+i.size) x with
    |true,ab,ab=>aa (⟨[],[(id,aa (.arr e l n h))],[]⟩,
      [.q l gen,.q n x,.p (m[k]? =aa r),.p (h=m.set k (r.take c++w++r.drop (c+w.length)))],o)
    |_,_,_=>aj
   |_,_,_=>aj
  |_=>aj
def vi(k a n:Nat):List (Nat×Nat×V)->List dE
 | []=>[]
 |h::c=>bif db a h.2.1&&dt h.2.1 (a+n) then .q h.1 k::vi k a n c else vi k a n c
def vj(k a n:Nat):List (Nat×Nat×V)->List dE
 | []=>[]
 |h::c=>bif db a h.2.1&&dt h.2.1 (a+n) then .p (h.1≠k)::vj k a n c else vj k a n c
def Ht(C:eb)(t:TypeId)(H:Nat->Option E)(a v:V)(w:List cB):jV:=
 match dL C.cn t,a,w with
 |some i,.cK id gen y k c,.row r::w=>match H id with
  |some (.a7 x m e h o)=>match v.val&&(oR v.cs&&(b5 v.cs.length i.size&&(db (c+i.size) r.length&&dt 0 i.size))),sY o c i.size with
   |true,aa l=>aa (⟨[],[(id,aa (.a7 x m e h (vk c v.cs o)))],[]⟩,.q e gen:: .q (aU x m).size y:: .p (h[k]? =aa r)::(s0 k l++vi k c i.size o),w)
   |_,_=>aj
  |_=>aj
 |some i,.cK id gen y k c,.int q:: .nat n:: .row r::w=>match H id with
  |some (.a7 x m e h o)=>match v.val&&(oR v.cs&&(b5 v.cs.length i.size&&(db (c+i.size) r.length&&dt 0 i.size))),sY ((o.drop q.toNat).take n) c i.size with
   |true,aa l=>aa (⟨[],[(id,aa (.a7 x m e h (o.take q.toNat++(vk c v.cs ((o.drop q.toNat).take n)++(o.drop q.toNat).drop n))))],[]⟩,
     .q e gen:: .q (aU x m).size y:: .p (h[k]? =aa r)::(s0 k l++(vi k c i.size ((o.drop q.toNat).take n)++(vj k c i.size (o.take q.toNat)++vj k c i.size ((o.drop q.toNat).drop n)))),w)
   |_,_=>aj
  |_=>aj
 |_,_,_=>aj
def yi(z:List T):List (Nat×Nat)->Bool
 | []=>ab
 |p::l=>(match z[p.1]? with|some .fT=>ab|_=>ak)&&yi z l
def Ij(C:eb)(d:Option Tmp)(t:TypeId)(u:Nat->Bool)(v w:V)(c:List cB):jV:=
 match dL C.cn t with
 |none=>aj
 |some i=>match i.u with
  | .slice e=>match dL C.cn e with
   |none=>aj
   |some j=>match v,w,c,mx (hX j.z).cs with
    | .t (.int .i64 n),.t (.int .i64 m),.nat k:: .rows R::c,aa a=>match u k,(hX j.z).val,b5 a.length j.size,dt 0 j.size&&db j.bytes 200000 with
     |false,ab,ab,ab=>aa (⟨fK d (.bg k 1 j.size 0 R.length),[(k,aa (.arr e 1 j.size R))],[(k,ab)]⟩,[.q n.toNat m.toNat,.p (mk n (a.map jM)=aa R),.p (0<=m)],c)
     |_,_,_,_=>aj
    | .t (.int .i64 n),.t (.int .i64 m),.nat k:: .ei _ h q:: .rows R::c,aa a=>match u k,(hX j.z).val&&yi a (aU h q).bk,b5 a.length j.size,dt 0 j.size&&db j.bytes 200000 with
     |false,ab,ab,ab=>aa (⟨fK d (.bg k 1 j.size 0 R.length),[(k,aa (.a7 h q 1 R []))],[(k,ab)]⟩,[.q (aU h q).ty e,.q (aU h q).size j.size,.q n.toNat m.toNat,.p (mk n (a.map jM)=aa R),.p (0<=m)],c)
     |_,_,_,_=>aj
    |_,_,_,_=>aj
  |_=>aj
def Hv(C:eb)(d:Option Tmp)(t x:TypeId)(H:Nat->Option E)(v w:V)(m:List cB):jV:=
 match dL C.cn t with
 |none=>aj
 |some i=>match i.u with
  | .slice e=>match dL C.cn e with
   |none=>aj
   |some j=>match v,oD w,m with
    | .bg k gen size n o,.t (.bE l),.rows R::m=>match H k with
     |some (.arr r a c h)=>match b5 n 0,b5 j.z.cells.size j.size&&(dt 0 j.size&&db j.bytes 140000),b5 r e&&b5 x t with
      |true,ab,ab=>aa (⟨fK d (.bg k (a+1) size 0 R.length),[(k,aa (.arr r (a+1) c R))],[]⟩,
        [.q a gen,.q c size,.q size j.size,.q o h.length,.p (app h l=aa R),.p (Rows j.size h),.p (Rows j.size l)],m)
      |_,_,_=>aj
     |_=>aj
    |_,_,_=>aj
  |_=>aj
def GB(C:eb)(d:Option Tmp)(t B:TypeId)(H:Nat->Option E)(v w:V)(x:List cB):jV:=
 match dL C.cn t with
 |none=>aj
 |some i=>match i.u with
  | .slice e=>match dL C.cn e with
   |none=>aj
   |some j=>match v,w,x with
    | .bg k gen size o l,.bg ey Q W F y,.rows R::x=>match H k,H ey with
     |some (.a7 A m c a []),aa (.a7 G b L (X::n) r)=>match b5 o 0&&b5 F 0,b5 j.z.cells.size j.size&&(dt 0 j.size&&db j.bytes 140000),b5 B t&&(sO (aU A m) (n.length+1) r&&u9 r) with
      |true,ab,ab=>aa (⟨fK d (.bg k (c+1) size 0 R.length),[(k,aa (.a7 A m (c+1) R (jb a.length r)))],[]⟩,
        [.q c gen,.q L Q,.q W size,.q size j.size,.q (aU A m).size size,.q (aU A m).ty e,.q y (n.length+1),.q l a.length,.p (aU G b=aU A m),.p (app a (X::n)=aa R),.p (Rows j.size a),.p (Rows j.size (X::n))],x)
      |_,_,_=>aj
     |some (.arr Z c h a),aa _=>match b5 ey k&&b5 o 0,b5 Z e&&(b5 B t&&dt 0 j.size) with
      |true,ab=>aa (⟨fK d (.bg k gen size 0 (l+y)),[(k,aa (.arr Z c h R))],[]⟩,
        [.q c gen,.q Q gen,.q h size,.q W size,.q j.size size,.p (l+y<=a.length),.p (F+y<=a.length),.p (R=a.take l++(a.drop F).take y++a.drop (l+y))],x)
      |_,_=>aj
     |_,_=>aj
    | .bg k gen size o l,.t (.bE []),.int 0::x=>match H k with
     |some (.arr _ c h _)=>match b5 o 0&&dt 0 j.size,b5 B t with
      |true,ab=>aa (⟨fK d (.bg k gen size 0 l),[],[]⟩,[.q c gen,.q h size,.q j.size size],x)
      |_,_=>aj
     |_=>aj
    |_,_,_=>aj
  |_=>aj
def xA(d:dB):Nat->List V->Option (List T×List (Nat×Nat×V))
 |_,[]=>aa ([],[])
 |j,v::c=>match xA d (j+1) c with
  |none=>aj
  |some (r,a)=>match d.eV j with
   |some _=>bif v.one then aa (.bE []::r,(0,j,v)::a) else aj
   |none=>match zP v with
    |some x=>aa (x::r,a)
    |none=>aj
def rs:Nat->List V->List (Nat×Nat×V)
 |_,[]=>[]
 |i,v::vs=>(i,0,v)::rs (i+1) vs
def Ik(C:eb)(d:Option Tmp)(t:TypeId)(n:Nat)(l:List Nat)(u:Nat->Bool)(a:List V)(h:List cB):jV:=
 match dL C.cn t with
 |none=>aj
 |some i=>match i.u with
  | .slice e=>match dL C.cn e with
   |none=>aj
   |some j=>match n,h with
    |1,.lt k c m::h=>match lN (λi=>aa (i*j.size,j.size)) (dA (1*j.size) .dh) (l.zip (vx ((aU c m).eV 0) a)) with
     |none=>aj
     |some cs=>match xA (aU c m) 0 cs with
      |none=>aj
      |some (r,o)=>match u k,b5 cs.length j.size&&b5 (aU c m).size j.size,b5 l.length a.length&&b5 (aU c m).ty e,db (1*j.size) 16777216,dt 0 j.size with
       |false,ab,ab,ab,ab=>aa (⟨fK d (.bg k 1 j.size 0 1),[(k,aa (.a7 c m 1 [r] o))],[(k,ab)]⟩,[],h)
       |_,_,_,_,_=>aj
    |n,.lt k c m::h=>match lN (λi=>aa (i*j.size,j.size)) (dA (n*j.size) .dh) (l.zip (ie a)) with
     |none=>aj
     |some cs=>match u k,b5 j.size 1&&(b5 cs.length n&&oR cs),b5 l.length a.length&&(b5 (aU c m).ty e&&b5 (aU c m).size 1),db (n*j.size) 16777216,dt 0 n with
      |false,ab,ab,ab,ab=>aa (⟨fK d (.bg k 1 1 0 n),[(k,aa (.a7 c m 1 (dA n [.bE []]) (rs 0 cs)))],[(k,ab)]⟩,[],h)
      |_,_,_,_,_=>aj
    |_,_=>aj
  |_=>aj
def IQ(C:eb)(d:Option Tmp)(t:TypeId)(n:Nat)(c:List Nat)(u:Nat->Bool)(a:List V)(h:List cB):jV:=
 match dL C.cn t with
 |none=>aj
 |some i=>match i.u with
  | .slice e=>match dL C.cn e with
   |none=>aj
   |some j=>match n,c,h with
    |0,[],.nat k::h=>match u k with
     |false=>aa (⟨fK d (.bg k 1 j.size 0 0),[(k,aa (.arr e 1 j.size []))],[(k,ab)]⟩,[],h)
     |true=>aj
    |n,c,.int 1:: .nat k::h=>match lN (λi=>aa (i*j.size,j.size)) (dA (n*j.size) .dh) (c.zip (ie a)) with
     |none=>aj
     |some cs=>match mx cs with
      |none=>aj
      |some l=>match u k,b5 l.length (n*j.size),b5 c.length a.length,db (n*j.size) 16777216,dt 0 j.size with
       |false,ab,ab,ab,ab=>aa (⟨fK d (.bg k 1 j.size 0 (mj j.size n l).length),[(k,aa (.arr e 1 j.size (mj j.size n l)))],[(k,ab)]⟩,[],h)
       |_,_,_,_,_=>aj
    |n,c,.int 2:: .rows R::h=>match lN (λi=>aa (i*j.size,j.size)) (dA (n*j.size) .dh) (c.zip (ie a)) with
     |none=>aj
     |some cs=>match mx cs with
      |none=>aj
      |some l=>match b5 l.length (n*j.size),b5 c.length a.length,db (n*j.size) 16777216 with
       |true,ab,ab=>aa (⟨fK d (.t (.bE R)),[],[]⟩,[.p (mj j.size n l=R)],h)
       |_,_,_=>aj
    |n,c,.int 0::h=>match lN (λi=>aa (i*j.size,j.size)) (dA (n*j.size) .dh) (c.zip (ie a)) with
     |none=>aj
     |some cs=>match mx cs with
      |none=>aj
      |some l=>match b5 l.length (n*j.size),b5 c.length a.length,db (n*j.size) 16777216 with
       |true,ab,ab=>aa (⟨fK d (.t (.bE (mj j.size n l))),[],[]⟩,[],h)
       |_,_,_=>aj
    |_,_,_=>aj
  |_=>aj
mutual
def s9:V->Bool
 | .t (.int _ _)| .t (.bool _)| .t (.str _)=>ab
 | .agg cs=>vq cs
 | .bM cs=>vq cs
 |_=>ak
def vq:List V->Bool
 | []=>ab
 |c::cs=>s9 c&&vq cs
end
def yC(H:Nat->Option E):V->Option (T×List dE)
 | .bg k gen size h i=>match H k with
  |some (.arr _ c e a)=>aa (.bE a,[.q gen c,.q size e,.q h 0,.q i a.length])
  |some (.a7 l m c a [])=>aa (.bE a,[.q gen c,.q size (aU l m).size,.q h 0,.q i a.length])
  |_=>aj
 | .t x=>aa (jM x,[])
 |_=>aj
def C2(H:Nat->Option E):List V->Option (List T×List dE)
 | []=>aa ([],[])
 |v::a=>match yC H v,C2 H a with
  |some (x,c),aa (e,h)=>aa (x::e,c++h)
  |_,_=>aj
mutual
def ob(H:Nat->Option E):V->Option (V×List dE)
 | .bg k gen size c h=>match yC H (.bg k gen size c h) with
  |some (x,a)=>aa (.t x,a)
  |none=>aj
 | .t x=>aa (.t (jM x),[])
 | .aS cs=>aa (.aS cs,[])
 | .ref id c=>match H id with
  |some (.cells cs)=>match C2 H cs with
   |some (gb,a)=>aa (.aS (gb.drop c),a)
   |none=>aj
  |_=>aj
 | .agg cs=>match p' H cs with
  |some (e,a)=>aa (.agg e,a)
  |none=>aj
 | .bM cs=>match p' H cs with
  |some (e,a)=>aa (.bM e,a)
  |none=>aj
 | .fn f cs=>match p' H cs with
  |some (e,a)=>aa (.fn f e,a)
  |none=>aj
 | .cK _ _ _ _ _=>aj
 | .dh=>aj
def p'(H:Nat->Option E):List V->Option (List V×List dE)
 | []=>aa ([],[])
 |v::a=>match ob H v,p' H a with
  |some (x,c),aa (e,h)=>aa (x::e,c++h)
  |_,_=>aj
end
def Ry:List cB->List cB
 | .nat _::hs=>Ry hs
 |hs=>hs
def IZ(C:eb)(d:Option Tmp)(H:Nat->Option E)(a:List V)(e:List cB):jV:=
 match a with
 | .fn f c::args=>match Ry (e.drop 1) with
  | .v r::e=>match p' H (args++c),s9 r with
   |some (h,i),ab=>aa (⟨fK d r,[],[]⟩,i++[.p (lR C.P C.G f h r)],e)
   |_,_=>aj
  |_=>aj
 |_=>aj
def Iq(C:eb)(d:Option Tmp)(c:List V)(e:List cB):jV:=
 match c with
 | .fn f a::args=>match e with
  | .v r::e=>match hl hh (ie (args++a)) with
   |true=>aa (⟨fK d r,[],[]⟩,[.p (lR C.P C.G f (ie (args++a)) r)],e)
   |false=>aj
  | .nat _:: .v r::e=>aa (⟨fK d r,[],[]⟩,[.p (hl hh (ie (args++a))=ab),.p (lR C.P C.G f (ie (args++a)) r)],e)
  |_=>aj
 |_=>aj
def I1(C:eb)(d:Option Tmp)(h:List V)(H:Nat->Option E)(u:Nat->Bool)(l:List cB):jV:=
 match h with
 | .fn f i::args=>match l with
  | .dR L a r out::l=>match uB L (ie (args++i)),vf L H L,CM (L++a)&&Cc u a&&b5 out.length (L++a).length with
   |some c,aa hM,ab=>aa (⟨fK d (r.eB (L++a)),(L++a).zip (out.map λe=>aa (e.eB (L++a))),(L++a).map λk=>(k,ab)⟩,[.p (jW C.P C.G f hM c r out)],l)
   |_,_,_=>aj
  |_=>aj
 |_=>aj
def H8(C:eb)(t:TypeId)(H:Nat->Option E)(v:V)(n:List cB):jV:=
 match dL C.cn t with
 |none=>aj
 |some i=>match i.u with
  | .slice e=>match dL C.cn e with
   |none=>aj
   |some j=>match v,n,mx (hX j.z).cs with
    | .bg k gen size l m,.rows R::n,aa o=>match H k,(hX j.z).val with
     |some (.arr r h a c),ab=>aa (⟨[],[(k,aa (.arr r h a R))],[]⟩,[.q h gen,.q a size,.q o.length size,.p (l+m<=c.length/\R=c.take l++dA m (o.map jM)++c.drop (l+m))],n)
     |_,_=>aj
    |_,_,_=>aj
  |_=>aj
def Im(C:eb)(d:Option Tmp)(t:TypeId)(H:Nat->Option E)(v w:V)(r:List cB):jV:=
 match dL C.cn t with
 |none=>aj
 |some i=>match i.u with
  | .slice e=>match dL C.cn e with
   |none=>aj
   |some j=>match v,oD w,r with
    | .bg k gen size n o,.t (.bE a),.rows R:: .nat m::r=>match H k,dt 0 j.size with
     |some (.arr x l c h),ab=>aa (⟨fK d (.t (.int .i64 m)),[(k,aa (.arr x l c R))],[]⟩,
       [.q l gen,.q c size,.q size j.size,.q m (Nat.min a.length o),.p (Rows j.size a),.p (n+o<=h.length/\R=h.take n++a.take m++h.drop (n+m))],r)
     |_,_=>aj
    |_,_,_=>aj
  |_=>aj
def UN:List cB->Bool
 | .dR _ _ _ _::_=>ab
 |_=>ak
def Ji(C:eb)(o:Oper)(e:List V)(H:Nat->Option E)(u:Nat->Bool)(h:List cB):jV:=
 match kR C.nt o.dst with
 |false=>aj
 |true=>match o.op with
  | .box _ _=>match e with
   | [v]=>match Ta h with
    |true=>Ir o.dst v h
    |false=>vr o.dst u v h
   |_=>aj
  | .alloc t=>match dL C.cn t with
   |some i=>vr o.dst u (hX i.z) h
   |none=>aj
  | .store t _ _=>match o.dst,e with
   |none,[a,v]=>match H3 C t H a v h with
    |some r=>aa r
    |none=>Ht C t H a v h
   |_,_=>aj
  | .makeSlice t _ _=>match e with
   | [v,w]=>Ij C o.dst t u v w h
   |_=>aj
  | .buildSlice t n l=>match IQ C o.dst t n (l.toList.map (·.1)) u e h with
   |some r=>aa r
   |none=>Ik C o.dst t n (l.toList.map (·.1)) u e h
  | .call c=>match c.callee with
   | .value _=>match UN h with
    |true=>I1 C o.dst e H u h
    |false=>match Ta h with
     |true=>IZ C o.dst H e h
     |false=>Iq C o.dst e h
   | .builtin .append=>match c.args.toList,c.argTypes.toList,e with
    | [_,_],[t,m],[v,w]=>match Hv C o.dst t m H v w h with
     |some r=>aa r
     |none=>GB C o.dst t m H v w h
    |_,_,_=>aj
   | .builtin .clear=>match o.dst,c.args.toList,c.argTypes.toList,e with
    |none,[_],[t],[v]=>H8 C t H v h
    |_,_,_,_=>aj
   | .builtin .copy=>match c.args.toList,c.argTypes.toList,e with
    | [_,_],[t,_],[v,w]=>Im C o.dst t H v w h
    |_,_,_=>aj
   | .builtin _=>match yI C.P C.cn H o.op e h with
    |some (v,k,h)=>aa (⟨fK o.dst v,[],[]⟩,k,h)
    |none=>aj
   |_=>aj
  |_=>match yI C.P C.cn H o.op e h with
   |some (v,k,h)=>aa (⟨fK o.dst v,[],[]⟩,k,h)
   |none=>aj
theorem adI{z:Value}{a:List T}(k:(hX z).val=ab)(l:mx (hX z).cs=aa a):z.cells.size=a.length/\ ∀(w:World) (X:Nat->Prop) (j:Nat) (u:Value) (x:T),z.cells[j]? =aa u->(a.map jM)[j]? =aa x->df w X x u:=by
 have h:=fun(w:World) (X:Nat->Prop)=>(zX (⟨λ_=>aj,λ_ _=>False⟩:Map) w X z).cells k;have i:=pw l;refine⟨by rw[(h default λ_=>False).1,i,dJ],λw X j u x m c=>?_⟩;rw[eL] at c;cases e:a[j]? with
 |none=>rw[e] at c;cases c
 |some y=>
  rw[e] at c;simp only[hv,Option.some.injEq] at c;subst c
  have:=(h w X).2 j (.t y) u (by rw[i,eL,e];rfl) m;cases this with
  |t _ _ n=>exact n.zr
section steps
variable {K:Ctx}{s:S}{d:Option Tmp}{ty:TypeId}{pos:String}{af:Array Edge}{g:Option (Nat×Bool)}
variable {t:TypeId}{u:TypeDesc}{z:Value}{size bytes gen:Nat}
theorem Xa(a:Array Value)(n i j:Nat)(h:i<n)(e:j<a.size):(eS a n).toList[i*a.size+j]? =a[j]? :=by
 have c:i*a.size+j<n*a.size:=by
  have:(i+1)*a.size<=n*a.size:=eh _ h
  grind
 have k:(i*a.size+j)%a.size=j:=by rw[Nat.mul_comm,Nat.mul_add_mod];exact Nat.mod_eq_of_lt e
 simp[eS,c,k,e]
theorem aea(x:Operand)(D c h:Nat)(e e':TypeId)(rows:List (List T))(A:List T)(hx:s.get x= .bg D gen size c h)(hH:s.H D=aa (.arr e' gen size rows))(gJ:K.P.underlying t=aa (.slice e)){sz:Nat}(he:ct K.P e u z sz bytes)
  (bW:(hX z).val=ab) (fr:mx (hX z).cs=aa A) (L:A.length=size) (cI:c+h<=rows.length):
  ej K ⟨aj,.call {callee:= .builtin .clear,args:= #[x],argTypes:= #[t]},ty,pos,af,g⟩ s {s with H:=a8 s.H D (aa (.arr e' gen size (rows.take c++dA h (A.map jM)++rows.drop (c+h))))}:=by
 intro β a w next Q b8 E
 have R:=b8.get x;rw[hx] at R;have I:=(b8.heap D _ hH).2;obtain⟨q,M⟩:=l8 I;obtain⟨rN,N⟩:=adI bW fr;unfold Oper.wp;cases h with
 |zero=>
  obtain⟨o8,cap,o⟩: ∃o8 cap,a.eval x= .slice o8 0 cap:=by
   rcases d4 R M with ⟨cap,b,n,lH,o,_⟩|⟨_,_,_,o⟩
   ·exact⟨_,cap,o⟩
   exact⟨aj,0,o⟩
  have y:(execOp a.eval ⟨aj,.call {callee:= .builtin .clear,args:= #[x],argTypes:= #[t]},ty,pos,af,g⟩).run K.P w= .ok (.value (.tuple #[])) w:=by
   cases o8<;>simp[execOp,resolve,invoke,builtin,o,Builtin.clear_,run_underlying gJ]
  rw[y]
  have:rows.take c++dA 0 (A.map jM)++rows.drop (c+0)=rows:=aX
  refine E β _ _ ?_;rw[this];exact b8.zN D _ hH
 |succ h=>
  rcases d4 R M with ⟨cap,b,n,lH,o,lA,hw,hs,cY,qo,hm⟩|⟨_,_,h0,_⟩
  ·subst lA;rcases I.2 with ⟨U,_⟩|⟨cS,C,U,h2,h3,h4,h5⟩
   ·rw[M] at U;cases U
   rw[M] at U;cases U;have F:z.cells.size=size:=by rw[rN,L]
   have p:(eS z.cells (h+1)).toList.length=(h+1)*size:=by rw[rb,size_zeroCells,F]
   have qk:c*size+(h+1)*size<=C.size:=by
    have:(c+(h+1))*size<=rows.length*size:=eh _ cI;rw[eu] at this;omega
   have r: ∀(i j:Nat) (u:Value),i<h+1->j<size->(eS z.cells (h+1)).toList[i*size+j]? =aa u->z.cells[j]? =aa u:=by
    intro i j u hi G hu;rw[<-F] at G hu
    rwa [Xa _ _ _ _ hi G] at hu
   have V: ∀v∈(eS z.cells (h+1)).toList,v.oneCell'=ab:=by
    intro v ail;obtain⟨k,E⟩:=jQ.1 ail;have W:=(bS.1 E).1;rw[p] at W;have hp:0<size:=by
     rcases Nat.eq_zero_or_pos size with e0|e0
     ·rw[e0] at W;omega
     exact e0
    have hdiv:k / size<h+1:=(w2 hp).2 W;have SH:k%size<size:=Nat.mod_lt _ hp;have qn:(eS z.cells (h+1)).toList[k / size*size+k%size]? =aa v:=by rw[Nat.div_add_mod'];exact E
    have h9:=r _ _ _ hdiv SH qn
    have:(A.map jM)[k%size]? =aa (jM A[k%size]):=by rw[eL,bp O];rfl
    exact(bq.t (β:=β) _ _ (N w (λ_=>False) _ _ _ h9 this)).j7 rfl
   have qv:=run_storeCells_at K.P b (c*size) e' (eS z.cells (h+1)).toList 0 C w h2 (by rw[p];omega) V;simp only[Nat.add_zero] at qv;have y:(execOp a.eval ⟨aj,.call {callee:= .builtin .clear,args:= #[x],argTypes:= #[t]},ty,pos,af,g⟩).run K.P w= .ok (.value (.tuple #[])) (w.setRow b (C.toList.take (c*size)++(eS z.cells (h+1)).toList++C.toList.drop (c*size+(eS z.cells (h+1)).toList.length)).toArray):=by
    simp[execOp,resolve,invoke,builtin,o,Builtin.clear_,run_underlying gJ,he.uu,qv]
   rw[y];refine E β _ _ (PN b8 D b e' rows _ C _ hH M h2 (by simp[p];omega) ?_ ?_ ?_)
   ·have:(rows.take c++dA (h+1) (A.map jM)++rows.drop (c+(h+1))).length=rows.length:=bQ
    rw[this];exact h3
   ·intro m l;rw[eC,eC] at l;rcases l with (l|l)|l
    ·exact h4 m (gP l)
    ·rw[(uF.1 l).2,dJ];exact L
    exact h4 m (fq l)
   intro i j m kD sq aN a2 a3;have a3:(C.toList.take (c*size)++(eS z.cells (h+1)).toList++C.toList.drop (c*size+(eS z.cells (h+1)).toList.length))[i*size+j]? =aa sq:=by simpa using a3
   rw[p] at a3;have B:(C.toList.take (c*size)).length=c*size:=bQ
   by_cases c1:i<c
   ·rw[fN,jq bQ,g',aR c1] at aN;have G:j<size:=by rw[<-h4 m (bx aN)];exact(bS.1 a2).1
    have hlt:i*size+j<c*size:=px c1 G;rw[fN,jq O,g',aR hlt] at a3;exact .inl ⟨i,m,aN,a2,by simpa using a3⟩
   by_cases c2:i<c+(h+1)
   ·rw[jq bQ,iE bQ] at aN;have l:m=A.map jM:=by
     have:=bx aN;exact(uF.1 this).2
    subst l;have G:j<size:=by rw[<-L,<-dJ (f:=jM)];exact(bS.1 a2).1
    have e1:i*size+j=c*size+((i-c)*size+j):=by rw[Nat.sub_mul];have:=eh size (O:c<=i);omega
    have hlt:(i-c)*size+j<(h+1)*size:=px O G;rw[e1,jq (by rw[ea,B,p];omega),iE O,B,Nat.add_sub_cancel_left] at a3;exact .inr λw X=>N w X j _ _ (r _ _ _ O G a3) a2
   have Z:(rows.take c++dA (h+1) (A.map jM)).length=c+(h+1):=bQ
   rw[iE O,Z,gZ,show c+(h+1)+(i-(c+(h+1)))=i by omega] at aN;have G:j<size:=by rw[<-h4 m (bx aN)];exact(bS.1 a2).1
   have kr:c*size+(h+1)*size<=i*size+j:=by
    have:=eh size (O:c+(h+1)<=i);rw[eu] at this;omega
   rw[iE (by rw[ea,B,p];omega),ea,B,p,gZ,show c*size+(h+1)*size+(i*size+j-(c*size+(h+1)*size))=i*size+j by omega] at a3;exact .inl ⟨i,m,aN,a2,by simpa using a3⟩
  omega
theorem ZM(k h l c:Nat)(x y:Operand)(e:TypeId)(rows:List (List T))(cD: ∀i,d=aa i->dt i K.nt=ab)(hx:s.get x= .bg k gen size 0 h)(hy:s.get y= .bg k gen size l c)(hH:s.H k=aa (.arr e gen size rows))
  (gJ:K.P.underlying t=aa (.slice e)) (he:ct K.P e u z size bytes) (hp:0<size) (h1:h+c<=rows.length) (h2:l+c<=rows.length):
  ej K ⟨d,.call {callee:= .builtin .append,args:= #[x,y],argTypes:= #[t,t]},ty,pos,af,g⟩ s
   (({s with H:=a8 s.H k (aa (.arr e gen size (rows.take h++(rows.drop l).take c++rows.drop (h+c))))}:S).put d (.bg k gen size 0 (h+c))):=by
 intro β a w next Q b8 hkk
 have D:=b8.get x;rw[hx] at D;have ny:=b8.get y;rw[hy] at ny;have j4:=(b8.heap k _ hH).2;have kq:=j4.1;obtain⟨q,I⟩:=l8 j4;obtain⟨_,i,pj,hi2,qm,vQ⟩:=id he;unfold Oper.wp;cases c with
 |zero=>
  obtain⟨o8,cap,M⟩: ∃o8 cap,a.eval y= .slice o8 0 cap:=by
   rcases d4 ny I with ⟨cap,b,n,lH,p,_⟩|⟨_,_,_,p⟩
   ·exact⟨_,cap,p⟩
   exact⟨aj,0,p⟩
  have ah7:rows.take h++(rows.drop l).take 0++rows.drop (h+0)=rows:=aX
  have L:(execOp a.eval ⟨d,.call {callee:= .builtin .append,args:= #[x,y],argTypes:= #[t,t]},ty,pos,af,g⟩).run K.P w= .ok (.value (a.eval x)) w:=by
   rcases d4 D I with ⟨R2,b,n,lH,p,_,_,_,_,cI,_⟩|⟨_,_,_,p⟩
   ·cases o8<;>simp[execOp,resolve,invoke,builtin,p,M,Builtin.append_,run_underlying gJ,sizeOf,typeInfo,pj,Builtin.lenOf,Builtin.firstCells,cI,storeCells,loadCells,loadCellsFrom]
   cases o8<;>simp[execOp,resolve,invoke,builtin,p,M,Builtin.append_,run_underlying gJ,sizeOf,typeInfo,pj,Builtin.lenOf,Builtin.firstCells,loadCells,loadCellsFrom]
  rw[L];refine hkk β _ w ?_;have j3:a8 s.H k (aa (E.arr e gen size rows))=s.H:=by
   funext j;by_cases F:j=k
   ·subst F;rw[cd,hH]
   rw[cb _ _ _ _ F]
  rw[ah7,j3];exact b8.put d cD D
 |succ c=>
  rcases d4 ny I with ⟨agm,b,n,lH,M,lA,hw,hs,cY,qo,hm⟩|⟨_,_,h0,_⟩
  ·subst lA;rcases d4 D I with ⟨A,jf,Km,akc,p,nw,y0,N,tG,akS,DB⟩|⟨h0,_⟩
   ·cases nw;rcases j4.2 with ⟨g1,_⟩|⟨cS,B,g1,g2,g3,g4,g5⟩
    ·rw[I] at g1;cases g1
    rw[I] at g1;cases g1;have SZ:B.size=Km:=by
     unfold hz at N;rw[g2] at N;simp at N;exact N.2
    obtain⟨C,S2⟩: ∃C,C=(B.toList.drop (l*size)).take ((c+1)*size):=⟨_,rfl⟩
    have hle:(l+(c+1))*size<=B.size:=iF (eh _ h2) g3;rw[eu] at hle;have G:C.length=(c+1)*size:=by rw[S2];simp;omega
    have R: ∀j v,C[j]? =aa v->B[l*size+j]? =aa v/\j<(c+1)*size:=λj v bW=>by
     have F:=(bS.1 bW).1;rw[G] at F;rw[S2,g',aR F,gZ] at bW;exact⟨by simpa using bW,F⟩
    have U: ∀r,r<rows.length-> ∃m,rows[r]? =aa m/\m.length=size:=λr yS=>⟨_,bp yS,g4 _ (gC yS)⟩
    have JC: ∀j v,C[j]? =aa v->w.cell? ((⟨b,l*size,aj⟩:Addr).add j)=aa v:=λj v bW=>by
     rw[kU];simp only[World.cell?,g2];exact(R j v bW).1
    have qu: ∀v,v∈C->v.oneCell'=ab:=λv bW=>by
     obtain⟨j,F⟩:=jQ.1 bW;obtain⟨h3,h4⟩:=R j v F;have SH:j%size<size:=Nat.mod_lt _ hp;have hdiv:j / size<c+1:=(w2 hp).2 h4;obtain⟨m,rM,yV⟩:=U (l+j / size) O;have ahi:(l+j / size)*size+j%size=l*size+j:=by rw[eu,q8,Nat.div_add_mod']
     exact(g5 (l+j / size) (j%size) m m[j%size] v rM (bp O) (by rw[ahi];exact h3)).j7
    have qk:h*size+C.length<=B.size:=by
     rw[G,<-eu];exact iF (eh _ h1) g3
    have W:h+(c+1)<=A:=by
     have:(h+(c+1))*size<=A*size:=by
      rw[dQ] at tG;rw[tG,<-SZ];exact iF (eh _ h1) g3
     exact Nat.le_of_mul_le_mul_right this hp
    have X:=run_append_room (P:=K.P) w t ty e i gJ pj b h A B g2 ⟨b,l*size,aj⟩ (c+1) agm C (by rw[qm];exact G) JC qu W (by rw[qm];exact qk);rw[qm] at X;have L:(execOp a.eval ⟨d,.call {callee:= .builtin .append,args:= #[x,y],argTypes:= #[t,t]},ty,pos,af,g⟩).run K.P w= .ok (.value (.slice (aa ⟨b,0,aj⟩) (h+(c+1)) A)) (w.setRow b (B.toList.take (h*size)++C++B.toList.drop (h*size+C.length)).toArray):=by
     rw[ik] at p;simp[execOp,resolve,invoke,builtin,p,M,X]
    rw[L];have V:(B.toList.take (h*size)).length=h*size:=bQ
    have SX:(B.toList.take (h*size)++C++B.toList.drop (h*size+C.length)).toArray.size=B.size:=bQ
    have Z:(rows.take h).length=h:=by rw[cZ];omega
    have f:((rows.drop l).take (c+1)).length=c+1:=by rw[cZ,fM];omega
    have hrel:=PN b8 k b e rows (rows.take h++(rows.drop l).take (c+1)++rows.drop (h+(c+1))) B _ hH I g2 SX ?_ ?_ ?_
    ·refine hkk β _ _ (hrel.put d cD ?_);have lY:bq β (w.setRow b (B.toList.take (h*size)++C++B.toList.drop (h*size+C.length)).toArray) (own K β (a8 s.H k (aa (.arr e gen size (rows.take h++(rows.drop l).take (c+1)++rows.drop (h+(c+1))))))) (.bg k gen size 0 (h+(c+1))) (.slice (aa ⟨b,0*size,aj⟩) (h+(c+1)) A):=by
      refine .bg k gen size 0 _ A b Km e kq I (by simpa using y0) ?_ tG W DB;unfold hz;rw[setRow_heap _ _ _ _ _ _ g2];simp only[SX,SZ]
     rw[ik] at lY;exact lY
    ·rw[ea,ea,Z,f,fM]
     have:h+(c+1)+(rows.length-(h+(c+1)))=rows.length:=O
     rw[this];exact g3
    ·intro m o;rw[eC,eC] at o;rcases o with (o|o)|o
     ·exact g4 m (gP o)
     ·exact g4 m (fq (gP o))
     exact g4 m (fq o)
    intro r j m kD sq aN a2 a3;have a3:(B.toList.take (h*size)++C++B.toList.drop (h*size+C.length))[r*size+j]? =aa sq:=by simpa using a3
    refine .inl ?_;by_cases c1:r<h
    ·rw[fN,jq O,g',aR c1] at aN;have F:j<size:=by rw[<-g4 m (bx aN)];exact(bS.1 a2).1
     have hlt:r*size+j<h*size:=px c1 F;rw[fN,jq O,g',aR hlt] at a3;exact⟨r,m,aN,a2,by simpa using a3⟩
    by_cases c2:r<h+(c+1)
    ·rw[jq (by rw[ea];omega),iE O,Z,g',aR O,gZ] at aN;have F:j<size:=by rw[<-g4 m (bx aN)];exact(bS.1 a2).1
     have e1:r*size+j=h*size+((r-h)*size+j):=by rw[Nat.sub_mul];have:=eh size (O:h<=r);omega
     have hlt:(r-h)*size+j<(c+1)*size:=px O F;rw[e1,jq (by rw[ea,V,G];omega),iE O,V,Nat.add_sub_cancel_left] at a3;have h9:=(R _ _ a3).1;exact⟨l+(r-h),m,aN,a2,by rw[eu,q8];exact h9⟩
    have ahI:(rows.take h++(rows.drop l).take (c+1)).length=h+(c+1):=by rw[ea,Z,f]
    rw[iE O,ahI,gZ,show h+(c+1)+(r-(h+(c+1)))=r by omega] at aN;have F:j<size:=by rw[<-g4 m (bx aN)];exact(bS.1 a2).1
    have kr:h*size+(c+1)*size<=r*size+j:=by
     have:=eh size (O:h+(c+1)<=r);rw[eu] at this;omega
    rw[iE (by rw[ea,V,G];omega),ea,V,G,gZ,show h*size+(c+1)*size+(r*size+j-(h*size+(c+1)*size))=r*size+j by omega] at a3;exact⟨r,m,aN,a2,by simpa using a3⟩
   rw[I] at *; cases h0
  omega
theorem YB(k W:Nat)(x y:Operand)(e f:TypeId)(p:List (List T))(j: ∀i,d=aa i->dt i K.nt=ab)(v:s.get x= .bg k gen size 0 W)(D:dN (s.get y) (.t (.bE [])))(E:s.H k=aa (.arr f gen size p))
  (X:K.P.underlying t=aa (.slice e)) (I:ct K.P e u z size bytes) (M:0<size):
  ej K ⟨d,.call {callee:= .builtin .append,args:= #[x,y],argTypes:= #[t,t]},ty,pos,af,g⟩ s (s.put d (.bg k gen size 0 W)):=by
 intro N a w next Q F G
 have h:=F.get x;rw[v] at h;have L:=D _ _ _ _ (F.get y);have R:=(F.heap k _ E).2;obtain⟨q,U⟩:=l8 R;obtain⟨_,i,r,V,qm,vQ⟩:=id I;unfold Oper.wp;obtain⟨m,cap,A⟩: ∃m cap,a.eval y= .slice m 0 cap:=by
  rcases Bv L (Rows.nil size) M with (⟨B,_⟩|⟨b,o,c,_,B,_⟩)|⟨_,m,cap,B⟩
  ·exact⟨aj,0,B⟩
  ·exact⟨_,c,B⟩
  exact⟨m,cap,B⟩
 have C:(execOp a.eval ⟨d,.call {callee:= .builtin .append,args:= #[x,y],argTypes:= #[t,t]},ty,pos,af,g⟩).run K.P w= .ok (.value (a.eval x)) w:=by
  rcases d4 h U with ⟨Z,b,n,lH,l,_,_,_,_,cI,_⟩|⟨_,_,_,l⟩
  ·cases m<;>simp[execOp,resolve,invoke,builtin,l,A,Builtin.append_,run_underlying X,sizeOf,typeInfo,r,Builtin.lenOf,Builtin.firstCells,cI,storeCells,loadCells,loadCellsFrom]
  cases m<;>simp[execOp,resolve,invoke,builtin,l,A,Builtin.append_,run_underlying X,sizeOf,typeInfo,r,Builtin.lenOf,Builtin.firstCells,loadCells,loadCellsFrom]
 rw[C];exact G N _ w (F.put d j h)
theorem aa7{size off:Nat}{a c:List (List T)}{us cs:List Value}(w:off+m<=a.length)(B:a.length*size<=us.length)(p:cs.length=m*size)(C:m<=c.length)(q: ∀e,e∈a->e.length=size)(l: ∀e,e∈c->e.length=size){R:T->Value->Prop}
  (r: ∀(i j:Nat) (e:List T) (x:T) (u:Value),a[i]? =aa e->e[j]? =aa x->us[i*size+j]? =aa u->R x u)
  (y: ∀(i j:Nat) (e:List T) (x:T) (u:Value),c[i]? =aa e->e[j]? =aa x->cs[i*size+j]? =aa u->R x u):
  ∀(i j:Nat) (e:List T) (x:T) (u:Value),(a.take off++c.take m++a.drop (off+m))[i]? =aa e->e[j]? =aa x->(us.take (off*size)++cs++us.drop (off*size+cs.length))[i*size+j]? =aa u->R x u:=by
 have F:off*size+m*size<=a.length*size:=by rw[<-eu];exact eh _ w
 have A:=B4 (us.take (off*size)) cs [] (rows:=a.take off) (news:=c.take m) (n:=off) (size:=size) (by rw[cZ];omega) (by rw[cZ];omega) (by rw[cZ,p];congr 1;omega)
  (λe h=>q e (gP h)) (λe h=>l e (gP h)) (R:=R)
  (λk j e x u aN a2 a3=>by
   rw[g'] at aN a3;split at aN
   ·split at a3
    ·exact r k j e x u aN a2 a3
    cases a3
   cases aN)
  (λk j e x u aN a2 a3=>by
   rw[g'] at aN;split at aN
   ·exact y k j e x u aN a2 a3
   cases aN)
 have o:(us.drop (off*size+cs.length)).length=us.length-(off+m)*size:=by rw[fM,p,eu]
 have gm:=B4 (us.take (off*size)++cs) ((us.drop (off*size+cs.length)).take ((a.length-(off+m))*size)) ((us.drop (off*size+cs.length)).drop ((a.length-(off+m))*size)) (rows:=a.take off++c.take m) (news:=a.drop (off+m)) (n:=off+m) (size:=size)
  (by rw[ea,cZ,cZ];omega) (by rw[ea,cZ,p,eu];omega)
  (by
   rw[cZ,o,fM]
   have:(a.length-(off+m))*size=a.length*size-(off+m)*size:=Nat.sub_mul _ _ _;omega)
  (λe h=>by
   rcases eC.1 h with h|h
   ·exact q e (gP h)
   exact l e (gP h)) (λe h=>q e (fq h)) (R:=R) (λk j e x u aN a2 a3=>A k j e x u aN a2 (by simpa using a3))
  (λk j e x u aN a2 a3=>by
   rw[gZ] at aN;rw[g'] at a3;split at a3
   ·rw[gZ,p] at a3;refine r (off+m+k) j e x u aN a2 ?_;rw[eu,eu,q8];exact a3
   cases a3)
 intro i j e x u aN a2 a3;refine gm i j e x u aN a2 ?_;rw[fN _ (List.take _ _),mX];exact a3
theorem afs(x y:Operand)(D c len:Nat)(e e' mU:TypeId)(rows k:List (List T))(cD: ∀i,d=aa i->dt i K.nt=ab)(hx:s.get x= .bg D gen size c len)(hy:dN (s.get y) (.t (.bE k)))(hH:s.H D=aa (.arr e' gen size rows))(gJ:K.P.underlying t=aa (.slice e))
  (he:ct K.P e u z size bytes) (hp:0<size) (E: ∀r,r∈k->r.length=size) (cI:c+len<=rows.length):
  ej K ⟨d,.call {callee:= .builtin .copy,args:= #[x,y],argTypes:= #[t,mU]},ty,pos,af,g⟩ s
   (({s with H:=a8 s.H D (aa (.arr e' gen size (rows.take c++k.take (Nat.min k.length len)++rows.drop (c+Nat.min k.length len))))}:S).put d (.t (.int .i64 (Nat.min k.length len:Nat)))):=by
 intro β a w next Q b8 hk
 have I:=b8.get x;rw[hx] at I;have ny:=hy _ _ _ _ (b8.get y);have M:=(b8.heap D _ hH).2;obtain⟨q,N⟩:=l8 M;obtain⟨_,i,pj,hi2,qm,vQ⟩:=he;unfold Oper.wp;have aiq: ∃C c1,a.eval x= .slice C len c1:=by
  rcases d4 I N with ⟨F,b,n,lH,B,_⟩|⟨_,_,h0,B⟩
  ·exact⟨_,F,B⟩
  subst h0;exact⟨aj,0,B⟩
 have X:=Bv ny E hp;have aiv: ∃KG c2,a.eval y= .slice KG k.length c2:=by
  rcases X with (⟨A,Z⟩|⟨b,c,F,L,A,_⟩)|⟨Z,o8,F,A⟩
  ·subst Z;exact⟨aj,0,A⟩
  ·exact⟨_,_,A⟩
  subst Z;exact⟨o8,F,A⟩
 obtain⟨m,hm⟩: ∃m,m=Nat.min k.length len:=⟨_,rfl⟩
 rw[<-hm] at hk;by_cases U:m=0
 ·subst U;obtain⟨C,c1,B⟩:=aiq;obtain⟨KG,c2,A⟩:=aiv;have G:(execOp a.eval ⟨d,.call {callee:= .builtin .copy,args:= #[x,y],argTypes:= #[t,mU]},ty,pos,af,g⟩).run K.P w= .ok (.value (goInt ((0:Nat):Int))) w:=by
   cases C<;>cases KG<;>simp[execOp,resolve,invoke,builtin,B,A,Builtin.copy_,run_underlying gJ,sizeOf,typeInfo,pj,Builtin.lenOf,Builtin.firstCells,<-hm,loadCells,loadCellsFrom,storeCells]
  rw[G]
  have:rows.take c++k.take 0++rows.drop (c+0)=rows:=aX
  rw[this] at hk;exact hk β _ _ ((b8.zN D _ hH).put d cD (.t _ _ (.int _ _)))
 have akV:m<=len:=by rw[hm];exact Nat.min_le_right _ _
 have o:m<=k.length:=by rw[hm];exact Nat.min_le_left _ _
 rcases X with (⟨_,Z⟩|⟨cS,ajF,Dn,f,A,J1,JZ,nx,hwr⟩)|⟨Z,_⟩
 ·subst Z;simp at o;exact bB o U
 ·rcases d4 I N with ⟨F,b,n,lH,B,lA,hw,hs,Z,qo,qq⟩|⟨_,_,h0,_⟩
  ·subst lA;rcases M.2 with ⟨h1,_⟩|⟨V,L,h1,h2,h3,h4,h5⟩
   ·rw[N] at h1;cases h1
   rw[N] at h1;cases h1;have W:(f.take (m*size)).length=m*size:=by rw[cZ,J1];have:=eh size o;omega
   have qk:c*size+m*size<=L.size:=by
    have:(c+m)*size<=rows.length*size:=eh _ O;rw[eu] at this;omega
   have SE:=run_loadCells_list (P:=K.P) w ⟨cS,ajF,aj⟩ (f.take (m*size)) (λj y hj=>by
    rw[kU];rw[g'] at hj;split at hj
    ·exact JZ j y hj
    cases hj)
   have qv:=run_storeCells_at K.P b (c*size) e' (f.take (m*size)) 0 L w h2 (by rw[W];omega) λv bW=>nx v (gP bW);simp only[Nat.add_zero] at qv;rw[W] at SE;have G:(execOp a.eval ⟨d,.call {callee:= .builtin .copy,args:= #[x,y],argTypes:= #[t,mU]},ty,pos,af,g⟩).run K.P w= .ok (.value (goInt (m:Int))) (w.setRow b (L.toList.take (c*size)++f.take (m*size)++L.toList.drop (c*size+(f.take (m*size)).length)).toArray):=by
    simp[execOp,resolve,invoke,builtin,B,A,Builtin.copy_,run_underlying gJ,sizeOf,typeInfo,pj,qm,Builtin.lenOf,Builtin.firstCells,<-hm,SE,qv]
   rw[G];have lX:(L.toList.take (c*size)++f.take (m*size)++L.toList.drop (c*size+(f.take (m*size)).length)).toArray.size=L.size:=by
    have h2: ∀l:List Value,l.toArray.size=l.length:=λl=>aX
    rw[h2];simp only[List.length_append,W,List.length_take,List.length_drop,Array.length_toList];omega
   have hlen:(rows.take c++k.take m++rows.drop (c+m)).length=rows.length:=bQ
   have mI:own K β s.H b:= .inr ⟨D,by rw[hH];simp,.inl ⟨_,N⟩⟩;refine hk β _ _ (Rel.put (Rel.setRow b8 D b (.inl ⟨_,N⟩) L e' h2 _ lX (.arr e' gen size (rows.take c++k.take m++rows.drop (c+m))) (by rw[hH];simp)
    ⟨M.1,Or.inr ⟨b,_,N,setRow_heap _ _ _ _ _ _ h2,by rw[lX,hlen];exact h3,λr p=>?_,λi j r x u aN a2 a3=>?_⟩⟩) d cD (.t _ _ (.int _ _)))
   ·rw[eC,eC] at p;rcases p with (p|p)|p
    ·exact h4 r (gP p)
    ·exact E r (gP p)
    exact h4 r (fq p)
   have h9:=aa7 (off:=c) (m:=m) (us:=L.toList) (cs:=f.take (m*size)) O (by simpa using h3) W o h4 E (R:=λx u=>df w (own K β s.H) x u) (λi j r x u dc cS V=>h5 i j r x u dc cS (by simpa using V))
    (λi j r x u dc cS V=>by
     rw[g'] at V;split at V
     ·exact hwr i j r x u dc cS V
     cases V) i j r x u aN a2 (by simpa using a3)
   refine h9.mono ⟨rfl,rfl,rfl,aX,λkk _ hx=>setRow_other _ _ _ _ λe0=>hx ?_⟩ λ_ _ h=>h;subst e0;exact mI
  omega
 subst Z;simp at o;exact bB o U
end steps
end
variable {P:Program}{r:List Nat}{o:Oper}{b:S}{c l n M L:List cB}{k gen size:Nat}{e:c8}{e':E}{t:TypeId}{x y:Operand}{u:Nat->Bool}{m nh:List dE}{i:Array Operand}{z:Value}
theorem cc.sub{H r:Nat->Option E}{a:List V}{v:V}(h:cc P H o a v)(c: ∀k e,H k=aa e->r k=aa e):cc P r o a v:=
 λβ w X i l m=>h β w X i (λid e n=>l id e (c id e n)) m
theorem ej.KY{K:Ctx}{s c:S}(h:ej K o s b)(m: ∀β a w,Rel K β b a w->Rel K β c a w):ej K o s c:=
 λβ a w next Q n p=>h β a w next Q n λe k l i=>p e k l (m e k l i)
theorem aeA{K:Ctx}{β:Map}{H:Nat->Option E}{e:E}(l:H k=aa e):own K β (a8 H k (aa e'))=own K β H:=by
 funext b;apply propext;constructor
 ·rintro(h|⟨id,i,a⟩)
  ·exact .inl h
  by_cases c:id=k
  ·subst c;exact .inr ⟨id,by rw[l];simp,a⟩
  rw[cb _ _ _ _ c] at i;exact .inr ⟨id,i,a⟩
 rintro(h|⟨id,i,a⟩)
 ·exact .inl h
 by_cases c:id=k
 ·subst c;exact .inr ⟨id,by rw[cd];simp,a⟩
 exact .inr ⟨id,by rw[cb _ _ _ _ c];exact i,a⟩
theorem Rel.Tr{K:Ctx}{β:Map}{s:S}{a:Act}{w:World}(h:Rel K β s a w)(k:Nat){e:E}(m:s.H k=aa e)(p: ∀X,cX β w X k e->cX β w X k e'):Rel K β {s with H:=a8 s.H k (aa e')} a w:=by
 have fc:=aeA (K:=K) (β:=β) (e':=e') m;refine {h with heap:= ?_,dC:= ?_}
 ·intro id l n;show _/\cX β w (own K β (a8 s.H k (aa e'))) id l;rw[fc];by_cases o:id=k
  ·subst o;have c:a8 s.H id (aa e') id=aa l:=n;rw[cd] at c;cases c;obtain⟨q,r⟩:=h.heap id e m
   grind
  have c:a8 s.H k (aa e') id=aa l:=n;rw[cb _ _ _ _ o] at c;exact h.heap id l c
 intro i;show bq β w (own K β (a8 s.H k (aa e'))) _ _;rw[fc];exact h.dC i
section
variable {K:Ctx}{s:S}{d:Option Tmp}{ty:TypeId}{pos:String}{af:Array Edge}{g:Option (Nat×Bool)}
theorem QB{f:FuncId}{c:Operand}{k:Array Operand}{l:Array TypeId}(m:List V)(args:List V)(r:V)
  (L:j2 K.P f) (R:s.get c= .fn f m) (W: ∀i,d=aa i->dt i K.nt=ab) (Z:fU (k.toList.map s.get++m) args) (b:hl hh args=ab) (h:F4 K.P K.G f args r):
  ej K ⟨d,.call {callee:= .value c,args:=k,argTypes:=l},ty,pos,af,g⟩ s (s.put d r):=by
 obtain⟨F,j,t,v⟩:=L;intro β a w next Q o D
 have y:F.name≠ "runtime.NumGoroutine" :=by simpa using t
 have z:F.body≠aj:=by intro e;simp[e] at v
 obtain⟨us,A,B⟩:=(R▸o.get c).Jj;have p:(execOp a.eval ⟨d,.call {callee:= .value c,args:=k,argTypes:=l},ty,pos,af,g⟩).run K.P w= .ok (.enter f (k.map a.eval++us)) w:=by
  simp[execOp,resolve,Deferred.ofValue,A,invoke,callFunc,j,y,z]
 unfold Oper.wp;rw[p,Oper.upon_enter];have n:=(dH.le ((o.pd k.toList).app B) Z).Ko b;have q:=h w (own K β s.H) _ o.Dr o.Kq n;have I:(List.map a.eval k.toList++us.toList).toArray=k.map a.eval++us:=by rw[<-w3,<-Array.toList_append]
 rw[I] at q;refine q.mono ?_;rintro e M ⟨u,rfl,x,N⟩;exact D β _ M ((o.grow x).put d W (N.any λ_ h=>h))
theorem sE{s:S}{d:Option Tmp}{v:V}{e:E}:c8.app ⟨fK d v,[(k,aa e)],[(k,ab)]⟩ s=(s.new k e).put d v:=by cases d<;>rfl
theorem pB{s:S}{d:Option Tmp}{v:V}:c8.app ⟨fK d v,[],[]⟩ s=s.put d v:=by cases d<;>rfl
theorem ac8{v:V}(a: ∀k,u k=ak->s.u k=ak)(i:kR K.nt d=ab)(n:s.get x=v)
  (h:vr d u v l=aa (e,m,c)):ej K ⟨d,.box t x,ty,pos,af,g⟩ s (e.app s):=by
 unfold vr at h;split at h
 ·split at h
  ·rename_i o p;cases h;rw[sE];exact UT _ (a _ o) x v (h7 i) n p
  cases h
 cases h
theorem adJ{H:Nat->Option E}(x:Operand)(v:V)(i:List T)(n:v.val=ab)(k:v.cs=i.map .t):CU P H ⟨d,.box t x,ty,pos,af,g⟩ [v] (.aS i):=by
 intro β w X a _ o p;obtain⟨l,q⟩:=(show bq β w X v (a x) from p.1).cells n;have c:(execOp a ⟨d,.box t x,ty,pos,af,g⟩).run P w= .ok (.value (.pointer (aa ⟨w.heap.size,0,aj⟩))) (w.alloc (.cells (a x).cells t)):=by
  simp[execOp,Instr.box,newVar,newRow]
 refine⟨_,_,c,Ext.alloc _ _ _,?_⟩;refine .aS i w.heap.size 0 (λj=>(a x).cells.getD j undef) aX (λh=>by have:=o _ h;omega) (λj e=>?_) λj y m=>?_
 ·rw[dQ,World.cell?_alloc_new]
  have:j<(a x).cells.size:=by rw[l,k];simpa using e
  simp[this]
 have e:j<(a x).cells.size:=by rw[l,k,dJ];exact(bS.1 m).1
 have r:=q j (.t y) (a x).cells[j] (by rw[k,eL,m];rfl) (by simp[e]);cases r with
 |t _ _ h=>
  have:(a x).cells.getD j undef=(a x).cells[j]:=by simp[e]
  rw[this];exact h.mono (Ext.alloc X _ _) λ_ _ h=>h
theorem aaV{v:V}(a:kR K.nt d=ab)(i:s.get x=v)
  (h:Ir d v l=aa (e,m,c)):ej K ⟨d,.box t x,ty,pos,af,g⟩ s (e.app s):=by
 unfold Ir at h;split at h
 ·split at h
  ·rename_i k n o;cases h;rw[pB];exact Lc (vals:=[oD v]) (h7 a) ⟨i▸u' _,trivial⟩ (adJ x _ k n (pw o))
  cases h
 cases h
theorem Zz{a:List (Nat×cv)}(n:ek K.P a){i:cv}(o:dL a t=aa i)(p: ∀k,u k=ak->s.u k=ak)(q:kR K.nt d=ab)
  (h:vr d u (hX i.z) l=aa (e,m,c)):ej K ⟨d,.alloc t,ty,pos,af,g⟩ s (e.app s):=by
 unfold vr at h;split at h
 ·split at h
  ·rename_i r x;cases h;rw[sE];obtain⟨A,y,_⟩:=n _ _ o;exact aeb _ (p _ r) (h7 q) y x
  cases h
 cases h
theorem Zs{l:List (Nat×cv)}(b:ek K.P l){C:eb}(f:C.cn=l){H:Nat->Option E}{a v:V}(L: ∀k e,H k=aa e->s.H k=aa e)
  (Q:s.get x=a) (R:s.get y=v) (h:H3 C t H a v n=aa (e,m,c)) (p:cy m):ej K ⟨aj,.store t x y,ty,pos,af,g⟩ s (e.app s):=by
 subst f;unfold H3 at h;split at h
 ·cases h
 rename_i i j;obtain⟨T,W,_⟩:=b _ _ j;split at h
 ·split at h
  ·rename_i cs q;split at h
   ·rename_i z A B u;cases h;exact ad' _ _ _ _ cs v Q R (L _ _ q) W z A B u
   cases h
  cases h
 ·split at h
  ·rename_i D Z I o M r F n q G;split at h
   ·rename_i z A B;cases h;obtain⟨rfl,rfl,N,rfl,_⟩:=p;exact ZL x y _ _ _ D o r M Q (v:=oD v) (by rw[R];exact u' v) (pw G) z (L _ _ q) W N (de A) (eP B)
   cases h
  cases h
 cases h
theorem B5{k i n:Nat}: ∀{m:List (Nat×Nat×V)},cy (vi k i n m)-> ∀e c l,(e,c,l)∈m->i<=c->c<i+n->e=k
 |h::m,a,e,c,l,hm,o,p=>by
  simp only[vi] at a;rcases ez.1 hm with rfl|hm
  ·have r:db i c=ab:=Nat.ble_eq_true_of_le o;have x:dt c (i+n)=ab:=by simpa[Nat.blt_eq] using p
   simp only[r,x,Bool.and_self,cond_true] at a;exact a.1
  cases q:(db i h.2.1&&dt h.2.1 (i+n)) with
  |true=>rw[q] at a;exact B5 a.2 e c l hm o p
  |false=>rw[q] at a;exact B5 a e c l hm o p
theorem B6{k off n:Nat}: ∀{l:List (Nat×Nat×V)},cy (vj k off n l)-> ∀e c i,(e,c,i)∈l->off<=c->c<off+n->e≠k
 | [],_,_,_,_,hm,_,_=>by cases hm
 |h::l,a,e,c,i,hm,m,o=>by
  unfold vj at a;rcases ez.1 hm with rfl|hm
  ·have q:db off c=ab:=Nat.ble_eq_true_of_le m;have r:dt c (off+n)=ab:=by simpa[Nat.blt_eq] using o
   simp only[q,r,Bool.and_self,cond_true] at a;exact a.1
  cases p:(db off h.2.1&&dt h.2.1 (off+n)) with
  |true=>rw[p] at a;exact B6 a.2 e c i hm m o
  |false=>rw[p] at a;exact B6 a e c i hm m o
theorem Yp{C:eb}(lz:ek K.P C.cn){H:Nat->Option E}{a v:V}{I:List cB}(hH: ∀k e,H k=aa e->s.H k=aa e)
  (B:s.get x=a) (hy:s.get y=v) (h:Ht C t H a v I=aa (e,nh,M)) (F:cy nh):ej K ⟨aj,.store t x y,ty,pos,af,g⟩ s (e.app s):=by
 unfold Ht at h;split at h
 ·rename_i i id gen sz k G r I N;obtain⟨alR,T,_⟩:=lz _ _ N;split at h
  ·rename_i U m L p fc yR;split at h
   ·rename_i l o ji;cases h;simp only[b9] at o;obtain⟨rfl,fr,b8,dI⟩:=F;obtain⟨oG,Q⟩:=cy.app dI;obtain⟨dc,cS⟩:=xq ji oG;refine Xj x y _ _ _ U m p r v fc B hy o.1 o.2.1 (hH _ _ yR) fr T (de o.2.2.1) (by simpa[Nat.blt_eq] using o.2.2.2.2) b8 (eP o.2.2.2.1) (B5 Q) λj hj=>?_;have hj':=bp (show j<(l.map (·.2)).length by simp[dc];exact hj)
    grind
   cases h
  cases h
 ·rename_i i id gen sz k G q n r I N;obtain⟨alR,T,_⟩:=lz _ _ N;split at h
  ·rename_i U m L p fc yR;split at h
   ·rename_i l o ji;cases h;simp only[b9] at o;obtain⟨rfl,fr,b8,dI⟩:=F;obtain⟨oG,Q⟩:=cy.app dI;obtain⟨Q,ui⟩:=cy.app Q;obtain⟨ui,Tq⟩:=cy.app ui;obtain⟨dc,cS⟩:=xq ji oG;have R:=de o.2.2.1;have W: ∀x,x∈(fc.drop q.toNat).take n->x∈fc:=λx B=>fq (gP B);have A: ∀x,x∈fc->x∈fc.take q.toNat\/x∈(fc.drop q.toNat).take n\/x∈(fc.drop q.toNat).drop n:=λx B=>by
     rw[<-mX q.toNat fc,eC] at B;rcases B with h|h
     ·exact .inl h
     rw[<-mX n (fc.drop q.toNat),eC] at h
     grind
    refine LL x y _ _ _ U m p r v fc B hy o.1 o.2.1 (hH _ _ yR) fr T R (by simpa[Nat.blt_eq] using o.2.2.2.2) b8 (eP o.2.2.2.1) (λf u D hm=>?_) (λf u Z hm=>?_) λj hj=>?_
    ·rcases eC.1 hm with c|c
     ·exact⟨D,gP c,λz=>bB z.1 (B6 ui f u D c z.2.1 z.2.2),λ_=>rfl⟩
     rcases eC.1 c with c|c
     ·obtain⟨Z,aN,a2,a3⟩:=GG c;refine⟨Z,W _ aN,λz=>?_,λz=>a3 λb=>z ⟨B5 Q f u Z aN b.1 O,b.1,O⟩⟩
      grind
     exact⟨D,fq (fq c),λz=>bB z.1 (B6 Tq f u D c z.2.1 z.2.2),λ_=>rfl⟩
    ·rcases A _ hm with c|c|c
     ·exact⟨Z,eC.2 (.inl c)⟩
     ·obtain⟨v1,h2⟩:=Hn (off:=G) (vs:=v.cs) c
      grind
     exact⟨Z,eC.2 (.inr (eC.2 (.inr c)))⟩
    have hj':=bp (show j<(l.map (·.2)).length by simp[dc];exact hj)
    grind
   cases h
  cases h
 cases h
theorem ej.aki{K:Ctx}{s c:S}(h:ej K o s b)(p:b.le K c):ej K o s c:=
 λβ a w next Q q r=>h β a w next Q q λi m n k=>let ⟨e,l⟩:=p i m n k;r e m n l
theorem NN{z:List T}: ∀{l:List (Nat×Nat)} {j m:Nat},yi z l=ab->vo l j=aa m->z[j]? =aa .fT
 |p::l,j,m,h,a=>by
  simp only[yi,b9] at h;simp only[vo] at a;cases c:b5 p.1 j with
  |true=>
   rw[<-de c];have e:=h.1;split at e
   ·assumption
   cases e
  |false=>rw[c] at a;exact NN h.2 a
theorem ZU{K:Ctx}{s:S}(k:Nat){L n:Nat}{z:List T}(e:List dB)(m:Nat)(B:s.H k=aa (.arr t gen L (dA n z)))(r:(aU e m).ty=t)(F:(aU e m).size=L)
  (D:yi z (aU e m).bk=ab):s.le K {s with H:=a8 s.H k (aa (.a7 e m gen (dA n (z.map jM)) []))}:=by
 intro β a w h;refine⟨_,h.drop k (.a7 e m gen (dA n (z.map jM)) []) (by rw[B];simp) ?_⟩;have l:=(h.heap k _ B).2;subst r;subst F;refine⟨l.1,?_⟩;have o: ∀b,own K (β.drop k) (a8 s.H k (aa (.a7 e m gen (dA n (z.map jM)) []))) b->own K β s.H b:=by
  rintro b (I|⟨id,r,F⟩)
  ·exact .inl I
  refine .inr ⟨id,λG=>?_,oF F⟩;by_cases Z:id=k
  ·subst Z;rw[B] at G;cases G
  rw[cb _ _ _ _ Z] at r;exact r G
 rcases l.2 with ⟨aN,a2⟩|⟨b,M,aN,a2,a3,a4,a5⟩
 ·have:n=0:=by simpa using a2
  subst this;exact .inl ⟨aN,rfl,λc p=>p.1 rfl⟩
 refine .inr ⟨b,M,λ_ _ _=>False,aN,a2,by simpa using a3,λQ N=>?_,λi j Q x u A f P=>Cell.of ?_,λ_ _ _ h=>h.elim,λ_ _ _ _ _ h=>h.elim,λc=>⟨λp=>bB rfl p.1,λ⟨_,_,p⟩=>p.elim⟩⟩
 ·obtain⟨U,rfl⟩:=uF.1 N
  grind
 rw[uE] at A;split at A
 ·rename_i R;cases A;rw[eL] at f;obtain⟨y,v,rfl⟩:=Option.map_eq_some_iff.1 f;have q:=(a5 i j z y u (by rw[uE,aR R]) v P).mono (Ext.refl _ _) λb _=>o b;cases W:(aU e m).eV j with
  |none=>exact .kS _ _ _ q.zr (λ_ h=>h)
  |some V=>
   have:=NN D W;rw[v] at this;cases this;cases q;exact .nil _ _ λ_ h=>h
 cases A
theorem aaP{C:eb}(lz:ek K.P C.cn){v w:V}{I:List cB}(Q: ∀k,u k=ak->s.u k=ak)(cD:kR K.nt d=ab)
  (hx:s.get x=v) (hy:s.get y=w) (h:Ij C d t u v w I=aa (e,nh,M)) (W:cy nh):ej K ⟨d,.makeSlice t x y,ty,pos,af,g⟩ s (e.app s):=by
 unfold Ij at h;split at h
 ·cases h
 rename_i i l;split at h
 ·rename_i o N;have gJ:K.P.underlying t=aa (.slice o):=(lz _ _ l).jo.2.2.2 o N;split at h
  ·cases h
  rename_i j Z;obtain⟨rZ,he,_⟩:=lz _ _ Z;split at h
  ·rename_i n m k R I p r;split at h
   ·rename_i T f U z;cases h;obtain⟨hnm,A,B,_⟩:=W;obtain⟨rL,ahP,rfl⟩:=py A;have F:m=n:=O
    subst F;simp only[b9] at z;have c:=eP z.2;have D:m.toNat*j.bytes<=1000000000*200000:=oP O c;have bT:=mC B;have Z:=Q1 (K:=K) (s:=s) (d:=d) (ty:=ty) (pos:=pos) (af:=af) (g:=g) k (Q _ T) x y o m.toNat p (h7 cD) gJ he (by rw[hx,<-bT]) (by rw[hy,<-bT]) (pw r) f U z.1 O O;refine Z.KY λβ a w b8=>?_;have hk:((s.new k (.arr o 1 j.size (dA m.toNat p))).put d (.bg k 1 j.size 0 m.toNat)).H k=aa (.arr o 1 j.size (dA m.toNat p)):=by
     cases d<;>exact cd _ _ _
    have yV:=b8.Tr k hk λX=>acM;rw[sE,zV]
    have: ∀G L:E,({((s.new k G).put d (.bg k 1 j.size 0 m.toNat)) with H:=a8 ((s.new k G).put d (.bg k 1 j.size 0 m.toNat)).H k (aa L)}:S)=(s.new k L).put d (.bg k 1 j.size 0 m.toNat):=by
     intro G L;have Q: ∀a b:Option E,a8 (a8 s.H k a) k b=a8 s.H k b:=by
      intro a b;funext i;by_cases l:i=k
      ·subst l;rw[cd,cd]
      rw[cb _ _ _ _ l,cb _ _ _ _ l,cb _ _ _ _ l]
     cases d<;>simp only[S.put,S.new,Q]
    grind
   cases h
  ·rename_i n m k lD Γ q R I p r;split at h
   ·rename_i T f U z;cases h;obtain⟨aih,lX,hnm,A,B,_⟩:=W;obtain⟨rL,ahP,rfl⟩:=py A;have F:m=n:=O
    subst F;simp only[b9] at f z;have c:=eP z.2;have D:m.toNat*j.bytes<=1000000000*200000:=oP O c;have bT:=mC B;have Z:=Q1 (K:=K) (s:=s) (d:=d) (ty:=ty) (pos:=pos) (af:=af) (g:=g) k (Q _ T) x y o m.toNat p (h7 cD) gJ he (by rw[hx,<-bT]) (by rw[hy,<-bT]) (pw r) f.1 U z.1 O O;have hk:((s.new k (.arr o 1 j.size (dA m.toNat p))).put d (.bg k 1 j.size 0 m.toNat)).H k=aa (.arr o 1 j.size (dA m.toNat p)):=by
     cases d<;>exact cd _ _ _
    have cI:=ZU (K:=K) k Γ q hk aih lX f.2;rw[sE,zV]
    have: ∀G L:E,({((s.new k G).put d (.bg k 1 j.size 0 m.toNat)) with H:=a8 ((s.new k G).put d (.bg k 1 j.size 0 m.toNat)).H k (aa L)}:S)=(s.new k L).put d (.bg k 1 j.size 0 m.toNat):=by
     intro G L;have Q: ∀a b:Option E,a8 (a8 s.H k a) k b=a8 s.H k b:=by
      intro a b;funext i;by_cases l:i=k
      ·subst l;rw[cd,cd]
      rw[cb _ _ _ _ l,cb _ _ _ _ l,cb _ _ _ _ l]
     cases d<;>simp only[S.put,S.new,Q]
    rw[this] at cI;exact Z.aki cI
   cases h
  cases h
 cases h
theorem Yr{C:eb}(F:ek K.P C.cn)(_hn0:C.dV=K.dV){G:TypeId}{H:Nat->Option E}{v w:V}{o:List cB}{Q:List dE}(u: ∀k e,H k=aa e->s.H k=aa e)(D:kR K.nt d=ab)
  (I:s.get x=v) (M:s.get y=w) (h:Hv C d t G H v w L=aa (e,Q,o)) (p:cy Q):ej K ⟨d,.call {callee:= .builtin .append,args:= #[x,y],argTypes:= #[t,G]},ty,pos,af,g⟩ s (e.app s):=by
 unfold Hv at h;split at h
 ·cases h
 rename_i i N;split at h
 ·rename_i W q;have T:K.P.underlying t=aa (.slice W):=(F _ _ N).jo.2.2.2 W q;split at h
  ·cases h
  rename_i j Z;obtain⟨rZ,U,_⟩:=F _ _ Z;split at h
  ·rename_i k gen b off len a R L hw;split at h
   ·rename_i e' l r c yR;split at h
    ·rename_i h1 n z;cases h;obtain⟨rfl,rfl,rfl,rfl,m,A,B,_⟩:=p;obtain⟨bb,rfl⟩:=uV m;simp only[b9] at n z;have e1:=de z.1;have e2:=de z.2;have nu:=de h1;subst e1;subst e2;subst nu;have f:(c.length+a.length)*j.bytes<=1000000000*140000:=oP bb (eP n.2.2);have Z:=ace (K:=K) (s:=s) (d:=d) (ty:=ty) (pos:=pos) (af:=af) (g:=g) (gen:=l) (size:=j.size) k x y e' c a (h7 D) I (by rw[M,<-hw];exact u' w) (u _ _ yR) T U n.1 n.2.1 A B O O;rw[ea]
     have: ∀v e,c8.app ⟨fK d v,[(k,aa e)],[]⟩ s=({s with H:=a8 s.H k (aa e)}:S).put d v:=by intro v e;cases d<;>rfl
     grind
    cases h
   cases h
  cases h
 cases h
theorem XX{C:eb}(lz:ek K.P C.cn){mU:TypeId}{H:Nat->Option E}{v w:V}{Z b:List cB}(Q: ∀k e,H k=aa e->s.H k=aa e)(f:kR K.nt d=ab)
  (u:s.get x=v) (D:s.get y=w) (h:GB C d t mU H v w Z=aa (e,nh,b)) (p:cy nh):ej K ⟨d,.call {callee:= .builtin .append,args:= #[x,y],argTypes:= #[t,mU]},ty,pos,af,g⟩ s (e.app s):=by
 unfold GB at h;split at h
 ·cases h
 rename_i i hi;split at h
 ·rename_i I M;have N:K.P.underlying t=aa (.slice I):=(lz _ _ hi).jo.2.2.2 I M;split at h
  ·cases h
  rename_i j T;obtain⟨rZ,U,_⟩:=lz _ _ T;split at h
  ·rename_i k gen z off len ey g3 z3 al4 n3 R Z;split at h
   ·rename_i Γ m c a akn m3 agQ dV l ah' A B;split at h
    ·rename_i n o W;cases h;obtain⟨rfl,rfl,rfl,rfl,vM,oq,rfl,rfl,h3,F,rM,yV,_⟩:=p;obtain⟨bb,rfl⟩:=uV F;simp only[b9] at n o W;have G:=de n.1;have L:=de n.2;have nu:=de W.1;subst G;subst L;subst nu;have hmul:(a.length+(dV::l).length)*j.bytes<=1000000000*140000:=oP bb (eP o.2.2);have T:=abi (K:=K) (s:=s) (d:=d) (ty:=ty) (pos:=pos) (af:=af) (g:=g) (gen:=c) (size:=j.size) k ey agQ (l.length+1) x y I Γ akn m m3 a (dV::l) ah' (h7 f) u D (Q _ _ A) (Q _ _ B) h3 rfl N U o.1 vM oq rM yV (Nat.succ_pos _) W.2.1 W.2.2 O O;rw[ea]
     have: ∀v e,c8.app ⟨fK d v,[(k,aa e)],[]⟩ s=({s with H:=a8 s.H k (aa e)}:S).put d v:=by intro v e;cases d<;>rfl
     grind
    cases h
   ·rename_i e' c q a Jh A B;split at h
    ·rename_i n o;cases h;obtain⟨rfl,rfl,rfl,rfl,r,ahG,tE,rfl,_⟩:=p;simp only[b9] at n o;have G:=de n.1;have L:=de n.2;have tn:=de o.1;have lW:=de o.2.1;have hp:0<j.size:=by simpa[Nat.blt_eq] using o.2.2
     subst G;subst L;subst tn;subst lW;subst r;have T:=ZM (K:=K) (s:=s) (d:=d) (ty:=ty) (pos:=pos) (af:=af) (g:=g) _ _ _ _ x y _ _ (h7 f) u D (Q _ _ A) N U hp ahG tE
     have: ∀v e,c8.app ⟨fK d v,[(ey,aa e)],[]⟩ s=({s with H:=a8 s.H ey (aa e)}:S).put d v:=by intro v e;cases d<;>rfl
     grind
    cases h
   cases h
  ·rename_i k gen z off len Z;split at h
   ·rename_i e' c q a A;split at h
    ·rename_i n o;cases h;obtain⟨rfl,rfl,r,_⟩:=p;simp only[b9] at n;have G:=de n.1;have L:=de o;have hp:0<j.size:=by simpa[Nat.blt_eq] using n.2
     subst G;subst L;subst r;rw[pB];exact YB (K:=K) (s:=s) (d:=d) (ty:=ty) (pos:=pos) (af:=af) (g:=g) _ _ x y _ _ _ (h7 f) u (dN.of_eq D) (Q _ _ A) N U hp
    cases h
   cases h
  cases h
 cases h
theorem afK{v:V}{x:T}(h:zP v=aa x):v= .t x:=by
 cases v<;>simp[zP] at h
 grind
theorem ME{d:dB}: ∀{j:Nat} {a:List V} {r:List T} {c:List (Nat×Nat×V)},xA d j a=aa (r,c)->r.length=a.length/\
  (∀i b v,(i,b,v)∈c->i=0/\ ∃k,b=j+k/\a[k]? =aa v)/\(∀(k:Nat) x,r[k]? =aa x->(∃v,(0,j+k,v)∈c)\/(d.eV (j+k)=aj/\a[k]? =aa (.t x)))
 |j,[],r,c,h=>by cases h;exact⟨rfl,λ_ _ _ h=>bB h List.not_mem_nil,λk x h=>by simp at h⟩
 |j,v::a,r,c,h=>by
  simp only[xA] at h;split at h
  ·cases h
  rename_i L n B;obtain⟨aN,a2,a3⟩:=ME B;have y: ∀i b ef,(i,b,ef)∈n->i=0/\ ∃k,b=j+k/\(v::a)[k]? =aa ef:=λi b ef hm=>by
   obtain⟨F,k,Q,G⟩:=a2 i b ef hm;exact⟨F,k+1,O,by simpa using G⟩
  split at h
  ·rename_i R z;cases A:v.one with
   |false=>rw[A] at h;cases h
   |true=>
    rw[A] at h;cases h;refine⟨by simp[aN],λi b ef hm=>?_,λk x l=>?_⟩
    ·rcases ez.1 hm with e|hm
     ·cases e;exact⟨rfl,0,rfl,rfl⟩
     exact y i b ef hm
    cases k with
    |zero=>exact .inl ⟨v,eD⟩
    |succ k=>
     have:=a3 k x (by simpa using l);rw[show j+1+k=j+(k+1) by omega] at this;rcases this with ⟨ef,o⟩|⟨m,p⟩
     ·exact .inl ⟨ef,eo _ o⟩
     exact .inr ⟨m,by simpa using p⟩
  rename_i z;split at h
  ·rename_i W q;cases h;refine⟨by simp[aN],y,λk x l=>?_⟩;cases k with
   |zero=>simp at l;subst l;exact .inr ⟨z,by simp[afK q]⟩
   |succ k=>
    have:=a3 k x (by simpa using l);rw[show j+1+k=j+(k+1) by omega] at this;rcases this with m|⟨m,p⟩
    ·exact .inl m
    exact .inr ⟨m,by simpa using p⟩
  cases h
theorem afq{u:TypeDesc}{q:Nat}(k:Nat)(hk:s.u k=ak)(o:Array (Nat×Operand))(e:TypeId)(n N:List V)(A:List dB)(m:Nat)(r:List T)(M:List (Nat×Nat×V))(cD: ∀i,d=aa i->dt i K.nt=ab)(B:fU ((o.toList.map (·.2)).map s.get) n)
  (hu:K.P.underlying t=aa (.slice e)) (he:ct K.P e u z size q) (F:b5 o.toList.length n.length=ab) (hp:dt 0 size=ab) (G:db (1*size) 16777216=ab)
  (ji:lN (λi=>aa (i*size,size)) (dA (1*size) .dh) ((o.toList.map (·.1)).zip n)=aa N) (U:xA (aU A m) 0 N=aa (r,M)) (hcl:N.length=size) (vM:(aU A m).size=size) (oq:(aU A m).ty=e):
  ej K ⟨d,.buildSlice t 1 o,ty,pos,af,g⟩ s ((s.new k (.a7 A m 1 [r] M)).put d (.bg k 1 size 0 1)):=by
 have ahY:0<size:=by simpa[Nat.blt_eq] using hp
 obtain⟨zt,alL,alM⟩:=ME U;intro β a w next Q b8 hkk
 have Jy:dH β w (own K β s.H) n ((o.toList.map (·.2)).map a.eval):=(b8.pd _).le B;have qw:=wR a.eval o.toList;obtain⟨l,h1,h2⟩:=uU (β:=β) (w:=w) (X:=own K β s.H) (λi=>aa (i*size,size)) (o.toList.map (·.1)) n _ (dA (1*size) .dh)
  ((Array.range (1*size)).map ((if 1*size=0 then #[] else z.cells)[· %(if 1*size=0 then #[] else z.cells).size]!)) _ (B3 _ _ _ _ _ aX) Jy (by simpa using de F) ji
 have L:(execOp a.eval ⟨d,.buildSlice t 1 o,ty,pos,af,g⟩).run K.P w= .ok (.value (.slice (aa ⟨w.heap.size,0,aj⟩) 1 1)) (w.alloc (.cells l e)):=by
  have R:(o.toList.map λx=>match x with|(i,x)=>(i,a.eval x))=(o.toList.map (·.1)).zip ((o.toList.map (·.2)).map a.eval):=by rw[<-qw]
  have bb: ¬(1*size>2^24):=by have:=eP G;omega
  have h0: ¬1*size=0:=O
  simp only[execOp,Instr.buildSlice,fx,run_underlying hu,fu,he.run_sizeOf,bb,if_false,Array.toList_map];simp only[h0,if_false] at h1;simp only[h0,if_false,Sem.run_pure,fx,he.uu,fu];rw[R,h1];rfl
 unfold Oper.wp;rw[L];have p:l.size=size:=by
  have h:=h2.1
  grind
 have W:=b8.Kn k 1 hk l e (.a7 A m 1 [r] M) (λβ' iM w' hw tF Z mJ=>⟨cR _,Or.inr ⟨w.heap.size,l,λ_ _ _=>False,tF,by subst hw;rw[oq];exact kP _ _,by rw[p,vM];simp,λrow b=>by rw[pK.1 b,zt,hcl,vM],λi j row x y aN a2 a3=>by
  have hi:=(bS.1 aN).1;have JF:i=0:=by simpa using hi
  subst JF;simp at aN;subst aN;rw[ik,dQ] at a3;refine⟨λv B=>⟨?_,λ_ h=>h⟩,λcY=>?_⟩
  ·obtain⟨_,cz,f,R⟩:=alL _ _ _ B;rw[dQ] at f;subst f;exact Z _ _ (h2.2 _ _ y R (by simpa using a3))
  rcases alM j x a2 with ⟨v,B⟩|⟨f,R⟩
  ·rw[dQ] at B;exact bB B (cY v)
  rw[dQ] at f;rw[f];have h6:=Z _ _ (h2.2 _ _ y R (by simpa using a3));cases h6 with|t _ _ h=>exact .kS _ _ _ h λ_ h=>h,λ_ _ _ h=>h.elim,λ_ _ _ _ _ h=>h.elim,λc=>⟨λh=>bB h (mJ c),λ⟨_,_,h⟩=>h.elim⟩⟩⟩)
 have D:(w.alloc (.cells l e)).heap.size=w.heap.size+1:=World.size_alloc ..;have iw:(w.alloc (.cells l e)).shape? w.heap.size=aa (e,l.size):=by unfold hz;rw[kP]
 have I:bq (β.put k (aa (aa w.heap.size,1))) (w.alloc (.cells l e)) (own K (β.put k (aa (aa w.heap.size,1))) (s.new k (.a7 A m 1 [r] M)).H) (.bg k 1 size 0 1)
   (.slice (aa ⟨w.heap.size,0*size,aj⟩) 1 1):= .bg k 1 size 0 1 1 w.heap.size l.size e (cR _) (cd _ _ _) (D▸pF _) iw (by rw[p];omega) (cR _) (by unfold maxLen;omega)
 rw[ik] at I;exact hkk _ _ _ (W.put d cD I)
theorem Qg{n j:Nat}{v:V}: ∀{a:List V} {i:Nat},(n,j,v)∈rs i a->j=0/\ ∃k,n=i+k/\a[k]? =aa v
 |x::a,i,h=>by
  simp only[rs] at h;rcases ez.1 h with h|h
  ·cases h;exact⟨rfl,0,rfl,rfl⟩
  obtain⟨e,k,l,c⟩:=Qg h;exact⟨e,k+1,O,by simpa using c⟩
theorem Qf{v:V}: ∀{vs:List V} {i k:Nat},vs[k]? =aa v->(i+k,0,v)∈rs i vs
 |x::vs,i,0,h=>by
  simp at h;subst h;exact eD
 |x::vs,i,k+1,h=>by have:=Qf (i:=i+1) (k:=k) (vs:=vs) (by simpa using h);rw[show i+1+k=i+(k+1) by omega] at this;exact eo _ this
theorem afr{u:TypeDesc}{l B:Nat}(k:Nat)(hk:s.u k=ak)(n:Nat)(q:Array (Nat×Operand))(e:TypeId)(p F:List V)(G:List dB)(m:Nat)(cD: ∀i,d=aa i->dt i K.nt=ab)(M:fU ((q.toList.map (·.2)).map s.get) p)
  (hu:K.P.underlying t=aa (.slice e)) (he:ct K.P e u z l B) (L:b5 q.toList.length p.length=ab) (cY:dt 0 n=ab) (N:l=1) (R:db (n*l) 16777216=ab)
  (ji:lN (λi=>aa (i*l,l)) (dA (n*l) .dh) ((q.toList.map (·.1)).zip p)=aa F) (hcl:F.length=n) (T:(aU G m).size=1) (oq:(aU G m).ty=e):
  ej K ⟨d,.buildSlice t n q,ty,pos,af,g⟩ s ((s.new k (.a7 G m 1 (dA n [.bE []]) (rs 0 F))).put d (.bg k 1 1 0 n)):=by
 subst N;have W:0<n:=by simpa[Nat.blt_eq] using cY
 intro β a w next Q b8 U
 have Jy:dH β w (own K β s.H) p ((q.toList.map (·.2)).map a.eval):=(b8.pd _).le M;have qw:=wR a.eval q.toList;obtain⟨o,h1,h2⟩:=uU (β:=β) (w:=w) (X:=own K β s.H) (λi=>aa (i*1,1)) (q.toList.map (·.1)) p _ (dA (n*1) .dh)
  ((Array.range (n*1)).map ((if n*1=0 then #[] else z.cells)[· %(if n*1=0 then #[] else z.cells).size]!)) _ (B3 _ _ _ _ _ aX) Jy (by simpa using de L) ji
 have akF:=eP R;have Z:(execOp a.eval ⟨d,.buildSlice t n q,ty,pos,af,g⟩).run K.P w= .ok (.value (.slice (aa ⟨w.heap.size,0,aj⟩) n n)) (w.alloc (.cells o e)):=by
  have e2:(q.toList.map λx=>match x with|(i,x)=>(i,a.eval x))=(q.toList.map (·.1)).zip ((q.toList.map (·.2)).map a.eval):=by rw[<-qw]
  have bb: ¬(n*1>2^24):=O
  have h0: ¬n*1=0:=O
  simp only[execOp,Instr.buildSlice,fx,run_underlying hu,fu,he.run_sizeOf,bb,if_false,Array.toList_map];simp only[h0,if_false] at h1;simp only[h0,if_false,Sem.run_pure,fx,he.uu,fu];rw[e2,h1];rfl
 unfold Oper.wp;rw[Z];have r:o.size=n:=by
  have h:=h2.1;rw[rb] at h;omega
 have b:=b8.Kn k 1 hk o e (.a7 G m 1 (dA n [.bE []]) (rs 0 F)) (λβ' iM w' hw W mK mJ=>⟨cR _,Or.inr ⟨w.heap.size,o,λ_ _ _=>False,W,by subst hw;rw[oq];exact kP _ _,by rw[r,T];simp,λf A=>by rw[(uF.1 A).2,T];rfl,λi j f x y aN a2 a3=>by
  have hi:=(bS.1 aN).1;rw[zV] at hi;have A:f=[.bE []]:=(uF.1 (bx aN)).2;subst A;have hj0:j=0:=by
   have:=(bS.1 a2).1;simpa using this
  subst hj0;rw[T,Nat.mul_one,sw] at a3;refine⟨λv M=>⟨?_,λ_ h=>h⟩,λtG=>?_⟩
  ·obtain⟨_,cz,e1,e2⟩:=Qg M;rw[dQ] at e1;subst e1;exact mK _ _ (h2.2 _ _ y e2 (by simpa using a3))
  have bT:=bp (O:i<F.length)
  have:=Qf (i:=0) bT;rw[dQ] at this;exact bB this (tG _),λ_ _ _ h=>h.elim,λ_ _ _ _ _ h=>h.elim,λc=>⟨λh=>bB h (mJ c),λ⟨_,_,h⟩=>h.elim⟩⟩⟩)
 have D:(w.alloc (.cells o e)).heap.size=w.heap.size+1:=World.size_alloc ..;have iw:(w.alloc (.cells o e)).shape? w.heap.size=aa (e,o.size):=by unfold hz;rw[kP]
 have I:bq (β.put k (aa (aa w.heap.size,1))) (w.alloc (.cells o e)) (own K (β.put k (aa (aa w.heap.size,1))) (s.new k (.a7 G m 1 (dA n [.bE []]) (rs 0 F))).H) (.bg k 1 1 0 n)
   (.slice (aa ⟨w.heap.size,0*1,aj⟩) n n):= .bg k 1 1 0 n n w.heap.size o.size e (cR _) (cd _ _ _) (D▸pF _) iw (by rw[r];omega) (cR _) (by unfold maxLen;omega)
 rw[ik] at I;exact U _ _ _ (b.put d cD I)
theorem US{u:TypeDesc}{F:Nat}(k:Nat)(hk:s.u k=ak)(n:Nat)(p:Array (Nat×Operand))(e:TypeId)(o:List V)(c:List (List T))(cD: ∀i,d=aa i->dt i K.nt=ab)(bW:fU ((p.toList.map (·.2)).map s.get) o)
  (hu:K.P.underlying t=aa (.slice e)) (he:ct K.P e u z size F) (R:b5 p.toList.length o.length=ab)
  (cY:c.length=n) (hp:dt 0 size=ab) (G: ∀l,l∈c->l.length=size) (B:db (n*size) 16777216=ab)
  (ji:lN (λi=>aa (i*size,size)) (dA (n*size) .dh) ((p.toList.map (·.1)).zip o)=aa (c.flatten.map .t)):
  ej K ⟨d,.buildSlice t n p,ty,pos,af,g⟩ s ((s.new k (.arr e 1 size c)).put d (.bg k 1 size 0 c.length)):=by
 subst cY;have ahY:0<size:=by simpa[Nat.blt_eq] using hp
 intro β a w next Q b8 N
 have U:dH β w (own K β s.H) o ((p.toList.map (·.2)).map a.eval):=(b8.pd _).le bW;have qw:=wR a.eval p.toList;obtain⟨m,A,L⟩:=uU (β:=β) (w:=w) (X:=own K β s.H) (λi=>aa (i*size,size)) (p.toList.map (·.1)) o _ (dA (c.length*size) .dh)
  ((Array.range (c.length*size)).map ((if c.length*size=0 then #[] else z.cells)[· %(if c.length*size=0 then #[] else z.cells).size]!)) _ (B3 _ _ _ _ _ aX) U (by simpa using de R) ji
 have W:(execOp a.eval ⟨d,.buildSlice t c.length p,ty,pos,af,g⟩).run K.P w= .ok (.value (.slice (aa ⟨w.heap.size,0,aj⟩) c.length c.length)) (w.alloc (.cells m e)):=by
  have e2:(p.toList.map λx=>match x with|(i,x)=>(i,a.eval x))=(p.toList.map (·.1)).zip ((p.toList.map (·.2)).map a.eval):=by rw[<-qw]
  have bb: ¬(c.length*size>2^24):=by have:=eP B;omega
  simp only[execOp,Instr.buildSlice,fx,run_underlying hu,fu,he.run_sizeOf,bb,if_false,Array.toList_map];by_cases M:c.length*size=0
  ·simp only[M,if_true] at A;simp only[M,if_true,Sem.run_pure,fx,fu];rw[e2,A];rfl
  simp only[M,if_false] at A;simp only[M,if_false,Sem.run_pure,fx,he.uu,fu];rw[e2,A];rfl
 unfold Oper.wp;rw[W];have q:m.size=c.flatten.length:=by
  have h:=L.1
  grind
 have Z:c.flatten.length=c.length*size:=by
  rw[List.length_flatten]
  have:c.map List.length=dA c.length size:=List.eq_replicate_iff.2 ⟨aX,λb bb=>by obtain⟨r,b8,rfl⟩:=eA.1 bb;exact G r b8⟩;rw[this];simp
 have f: ∀(c:List (List T)),(∀l,l∈c->l.length=size)-> ∀(i j:Nat) (l:List T) (x:T),c[i]? =aa l->l[j]? =aa x->c.flatten[i*size+j]? =aa x:=by
  intro c;induction c with
  |nil=>intro _ i j l x h _;simp at h
  |cons r c nz=>
   intro hs i j l x A L;have b8:=hs r aX;rw[List.flatten_cons];cases i with
   |zero=>
    simp at A;subst A
    have:=(bS.1 L).1;rw[ik,dQ,jq this];exact L
   |succ i=>
    simp at A;rw[iE (by rw[b8,eu];omega)];rw[show(i+1)*size+j-r.length=i*size+j by rw[b8,eu];omega];exact nz (λl h=>hs l (by simp[h])) i j l x A L
 have v:=b8.new k 1 hk m e (.arr e 1 size c) (λβ' iM w' hw tF mK=>⟨cR _,Or.inr ⟨w.heap.size,m,tF,by subst hw;exact kP _ _,by rw[q,Z];exact cR _,G,λi j l x y aN a2 a3=>by
  have h5:=f c G i j l x aN a2;have h6:=L.2 (i*size+j) (.t x) y (by rw[eL,h5];rfl) (by simpa using a3);have pe:=mK _ _ h6;cases pe with|t _ _ h=>exact h⟩⟩)
 have D:(w.alloc (.cells m e)).heap.size=w.heap.size+1:=World.size_alloc ..;have iw:(w.alloc (.cells m e)).shape? w.heap.size=aa (e,m.size):=by unfold hz;rw[kP]
 have I:bq (β.put k (aa (aa w.heap.size,1))) (w.alloc (.cells m e)) (own K (β.put k (aa (aa w.heap.size,1))) (s.new k (.arr e 1 size c)).H) (.bg k 1 size 0 c.length)
   (.slice (aa ⟨w.heap.size,0*size,aj⟩) c.length c.length):= .bg k 1 size 0 c.length c.length w.heap.size m.size e (cR _) (cd _ _ _) (D▸pF _) iw (by rw[q,Z];simp) (cR _)
    (by
     have bb:=eP B;unfold maxLen
     have:c.length*1<=c.length*size:=Nat.mul_le_mul_left _ O;omega)
 rw[ik] at I;exact N _ _ _ (v.put d cD I)
theorem ac1{C:eb}(f:ek K.P C.cn){n:Nat}{o:Array (Nat×Operand)}{a:List V}{v Q:List cB}{D:List dE}(I: ∀k,u k=ak->s.u k=ak)(F:kR K.nt d=ab)
  (R:a=(o.toList.map (·.2)).map s.get) (h:IQ C d t n (o.toList.map (·.1)) u a v=aa (e,D,Q)) (W:cy D):ej K ⟨d,.buildSlice t n o,ty,pos,af,g⟩ s (e.app s):=by
 unfold IQ at h;split at h
 ·cases h
 rename_i i M;split at h
 ·rename_i q Z;have G:K.P.underlying t=aa (.slice q):=(f _ _ M).jo.2.2.2 q Z;split at h
  ·cases h
  rename_i j N;obtain⟨rZ,L,_⟩:=f _ _ N;split at h
  ·rename_i k v b;split at h
   ·rename_i p;cases h
    have:o= #[]:=by
     have:o.toList=[]:=by simpa using b
     grind
    subst this;rw[sE];exact acd k (I _ p) q (h7 F) G L
   cases h
  ·split at h
   ·cases h
   rename_i cs l;split at h
   ·cases h
   rename_i r m;split at h
   ·rename_i T p x y U;cases h;have c:=de p;obtain⟨z,A,B⟩:=BR j.size _ r c;rw[sE];refine US _ (I _ T) _ o q (ie a) _ (h7 F) (by rw[R];exact nL _) G L (by rw[ue];simpa using x) z U A y (by rw[l,B,pw m])
   cases h
  ·split at h
   ·cases h
   rename_i cs l;split at h
   ·cases h
   rename_i r m;split at h
   ·rename_i p x y;cases h;have c:=de p;obtain⟨z,A,B⟩:=BR j.size _ r c;rw[pB];rw[<-W.1];refine Lc (vals:=ie a) (h7 F) ?_ (LH _ o q (ie a) _ G L ?_ (by simp[z]) A y (by rw[l,B,pw m]))
    ·rw[R];simp only[Op.operands];exact nL _
    rw[ue];simpa using x
   cases h
  ·split at h
   ·cases h
   rename_i cs l;split at h
   ·cases h
   rename_i r m;split at h
   ·rename_i p x y;cases h;have c:=de p;obtain⟨z,A,B⟩:=BR j.size _ r c;rw[pB];refine Lc (vals:=ie a) (h7 F) ?_ (LH _ o q (ie a) _ G L ?_ (by simp[z]) A y (by rw[l,B,pw m]))
    ·rw[R];simp only[Op.operands];exact nL _
    rw[ue];simpa using x
   cases h
  cases h
 cases h
theorem aaQ{C:eb}(R:ek K.P C.cn){n:Nat}{c:Array (Nat×Operand)}{a:List V}{p:List cB}{o:List dE}(W: ∀k,u k=ak->s.u k=ak)(Z:kR K.nt d=ab)
  (b:a=(c.toList.map (·.2)).map s.get) (h:Ik C d t n (c.toList.map (·.1)) u a l=aa (e,o,p)):ej K ⟨d,.buildSlice t n c,ty,pos,af,g⟩ s (e.app s):=by
 unfold Ik at h;split at h
 ·cases h
 rename_i i D;split at h
 ·rename_i z B;have f:K.P.underlying t=aa (.slice z):=(R _ _ D).jo.2.2.2 z B;split at h
  ·cases h
  rename_i j I;obtain⟨T,v,_⟩:=R _ _ I;split at h
  ·rename_i k A m l;split at h
   ·cases h
   rename_i cs x;split at h
   ·cases h
   rename_i r M F;split at h
   ·rename_i G y q L Q;cases h;simp only[b9] at y q;rw[sE];exact afq k (W _ G) c z (vx ((aU A m).eV 0) a) cs A m r M (h7 Z) (by rw[b];exact aeC _ _) f v (by rw[X0];simpa using q.1) Q L x F (de y.1) (de y.2) (de q.2)
   cases h
  ·rename_i k A m l _;split at h
   ·cases h
   rename_i cs x;split at h
   ·rename_i G y q L Q;cases h;simp only[b9] at y q;have N:=de y.1;rw[sE];exact afr k (W _ G) _ c z (ie a) cs A m (h7 Z) (by rw[b];exact nL _) f v (by rw[ue];simpa using q.1) Q N L x (de y.2.1) (de q.2.2) (de q.2.1)
   cases h
  cases h
 cases h
theorem aaU{C:eb}(z:C.P=K.P)(A:C.G=K.G){c:Operand}{k:Array TypeId}{a:List V}(B:kR K.nt d=ab)
  (r:a=s.get c::i.toList.map s.get) (h:Iq C d a n=aa (e,m,l)) (x:cy m):ej K ⟨d,.call {callee:= .value c,args:=i,argTypes:=k},ty,pos,af,g⟩ s (e.app s):=by
 unfold Iq at h;split at h
 ·rename_i f o args;split at h
  ·split at h
   ·rename_i p;cases h;rw[pB];obtain⟨⟨y,q⟩,_⟩:=x;rw[z] at y q;rw[A] at q;simp only[List.cons.injEq] at r;exact QB o _ _ y r.1.symm (h7 B) (by rw[<-r.2];exact nL _) p q
   cases h
  ·cases h;rw[pB];obtain⟨p,⟨y,q⟩,_⟩:=x;rw[z] at y q;rw[A] at q;simp only[List.cons.injEq] at r;exact QB o _ _ y r.1.symm (h7 B) (by rw[<-r.2];exact nL _) p q
  cases h
 cases h
mutual
theorem Pm{T W:Map}{w a:World}{X Z:Nat->Prop}: ∀{v:V} {u:Value},s9 v=ab->bq T w X v u->bq W a Z v u
 | .t (.int _ _),u,_,h=>by rw[dP h];exact .t _ _ (.int _ _)
 | .t (.bool _),u,_,h=>by rw[oB h];exact .t _ _ (.bool _)
 | .t (.str _),u,_,h=>by rw[iu h];exact .t _ _ (.str _)
 | .agg cs,u,e,h=>by
  simp only[s9] at e;cases h with|agg _ l m h=>exact .agg _ l m (λi c u k n=>Gz e i c u k (h i c u k n))
 | .bM cs,u,e,h=>by
  simp only[s9] at e;cases h with|bM _ l m h=>exact .bM _ l m (λi c u k n=>Gz e i c u k (h i c u k n))
 | .t (.bE _),_,e,_| .t .fT,_,e,_| .t .iA,_,e,_| .t .hn,_,e,_| .t .oC,_,e,_| .t .err,_,e,_=>by simp[s9] at e
 | .ref _ _,_,e,_| .aS _,_,e,_| .bg _ _ _ _ _,_,e,_| .cK _ _ _ _ _,_,e,_| .fn _ _,_,e,_| .dh,_,e,_=>by simp[s9] at e
theorem Gz{T W:Map}{w a:World}{X Z:Nat->Prop}: ∀{cs:List V},vq cs=ab-> ∀(i:Nat) c u,cs[i]? =aa c->bq T w X c u->bq W a Z c u
 | [],_,_,_,_,h,_=>by simp at h
 |c::cs,e,0,l,u,k,h=>by
  simp only[vq,b9] at e;simp at k;subst k;exact Pm e.1 h
 |c::cs,e,i+1,l,u,k,h=>by simp only[vq,b9] at e;exact Gz e.2 i l u (by simpa using k) h
end
theorem cX.read{β:Map}{w:World}{X Z:Nat->Prop}{a:List (List T)}{u:Value}(h:cX β w X k (.arr t gen size a))(B:bq β w X (.bg k gen size 0 a.length) u)
  (F: ∀b,Z b->X b) (G: ∀b,At β k b-> ¬Z b):df w Z (.bE a) u:=by
 obtain⟨q,r⟩:=l8 h;rcases d4 B r with ⟨y,b,n,L,rfl,m,Q,I,R,W,M⟩|⟨m,_,f,rfl⟩
 ·subst m;rcases h.2 with ⟨o,z⟩|⟨N,l,o,z,P,A,v⟩
  ·rw[r] at o;cases o
  rw[r] at o;cases o;rw[ik];refine .bE a b 0 size y (λi j=>l.getD (i*size+j) undef) Q (G b (.inl ⟨_,r⟩)) W A (λi j hi D=>?_) λi j p x aN a2=>?_
  ·have c:i*size+j<l.size:=by
    have:(i+1)*size<=a.length*size:=eh _ hi;rw[eu] at this;omega
   rw[dQ];simp[World.cell?,z,c]
  have hi:=(bS.1 aN).1;have D:j<size:=by rw[<-A p (bx aN)];exact(bS.1 a2).1
  have c:i*size+j<l.size:=by
   have:(i+1)*size<=a.length*size:=eh _ hi
   grind
  have:=v i j p x l[i*size+j] aN a2 (by simp[c]);have e:l.getD (i*size+j) undef=l[i*size+j]:=by simp[c]
  rw[e];exact this.mono (Ext.refl _ _) λb _=>F b
 have:a=[]:=List.length_eq_zero_iff.1 f;subst this;exact .gX _ _
theorem cX.ajT{β:Map}{w:World}{X L:Nat->Prop}{l:List dB}{m:Nat}{a:List (List T)}{u:Value}(h:cX β w X k (.a7 l m gen a []))(f:bq β w X (.bg k gen (aU l m).size 0 a.length) u)
  (t: ∀b,L b->X b) (R: ∀b,At β k b-> ¬L b):df w L (.bE a) u:=by
 obtain⟨q,F⟩:=uY h;rcases d4 f F with ⟨Q,b,n,v,rfl,o,D,hs,I,M,hm⟩|⟨o,_,N,rfl⟩
 ·subst o;rcases h.2 with ⟨p,W⟩|⟨jf,r,B,p,W,h3,Z,P,_,_,U⟩
  ·rw[F] at p;cases p
  rw[F] at p;cases p;rw[ik];have y: ∀i j,i<a.length->j<(aU l m).size->i*(aU l m).size+j<r.size:=λi j hi G=>by
   have:(i+1)*(aU l m).size<=a.length*(aU l m).size:=eh _ hi
   grind
  refine .bE a b 0 (aU l m).size Q (λi j=>r.getD (i*(aU l m).size+j) undef) D (R b (.inl ⟨_,F⟩)) M Z (λi j hi G=>?_) λi j z x aN a2=>?_
  ·have:=y i j hi G;rw[dQ];simp[World.cell?,W,this]
  have hi:=(bS.1 aN).1;have G:j<(aU l m).size:=by rw[<-Z z (bx aN)];exact(bS.1 a2).1
  have A:=y i j hi G
  have:=(P i j z x r[i*(aU l m).size+j] aN a2 (by simp[A])).none;have e:r.getD (i*(aU l m).size+j) undef=r[i*(aU l m).size+j]:=by simp[A]
  rw[e];exact this.zO t λc V=>R c (.inr ((U c).2 ⟨i,j,V⟩))
 have:a=[]:=List.length_eq_zero_iff.1 N;subst this;exact .gX _ _
def va:V->List Nat
 | .bg k _ _ _ _=>[k]
 |_=>[]
mutual
def rk(H:Nat->Option E):V->List Nat
 | .bg k _ _ _ _=>[k]
 | .ref id _=>id::(match H id with
  |some (.cells cs)=>cs.flatMap va
  |_=>[])
 | .agg cs=>pX H cs
 | .bM cs=>pX H cs
 | .fn _ cs=>pX H cs
 | .t _| .aS _| .cK _ _ _ _ _| .dh=>[]
def pX(H:Nat->Option E):List V->List Nat
 | []=>[]
 |v::a=>rk H v++pX H a
end
section
variable {β:Map}{w:World}{X X1:Nat->Prop}{H:Nat->Option E}
theorem Qn{v:V}{x:T}{r:List dE}{u:Value}(q: ∀k e,H k=aa e->cX β w X k e)(l: ∀b,X1 b->X b)(z: ∀k,k∈va v-> ∀b,At β k b-> ¬X1 b)
  (h:yC H v=aa (x,r)) (a:cy r) (n:bq β w X v u):df w X1 x u:=by
 cases v with
 |bg k gen A B F=>
  simp only[yC] at h;split at h
  ·rename_i ty c o i p;cases h;obtain⟨rfl,rfl,rfl,rfl,_⟩:=a;exact(q k _ p).read n l (z k (by simp[va]))
  ·rename_i G m c i p;cases h;obtain⟨rfl,rfl,rfl,rfl,_⟩:=a;exact(q k _ p).ajT n l (z k (by simp[va]))
  cases h
 |t y=>
  simp only[yC] at h;cases h;cases n with|t _ _ h=>exact(h.mono (Ext.refl _ _) λb _=>l b).zr
 |agg=>cases h
 |bM=>cases h
 |ref=>cases h
 |aS=>cases h
 |cK=>cases h
 |fn=>cases h
 |dh=>cases h
theorem PG(r: ∀k e,H k=aa e->cX β w X k e)(z: ∀b,X1 b->X b): ∀{a:List V} {gb:List T} {n:List dE},(∀k,k∈a.flatMap va-> ∀b,At β k b-> ¬X1 b)->C2 H a=aa (gb,n)->cy n->
  gb.length=a.length/\ ∀(l:Nat->Option Value),(∀(i:Nat) c u,a[i]? =aa c->l i=aa u->bq β w X c u)-> ∀(i:Nat) x u,gb[i]? =aa x->l i=aa u->df w X1 x u
 | [],_,_,_,h,_=>by cases h;exact⟨rfl,λ_ _ i x u F=>by simp at F⟩
 |v::a,gb,n,A,h,o=>by
  simp only[C2] at h;split at h
  ·rename_i x G I L Q R;cases h;obtain⟨W,Z⟩:=cy.app o;obtain⟨f,t⟩:=PG r z (λk p=>A k (by rw[nS];exact jr _ p)) R Z;refine⟨by simp[f],λl B i y u q m=>?_⟩;cases i with
   |zero=>
    simp at q;subst q;exact Qn r z (λk p=>A k (by rw[nS];exact kd _ p)) Q W (B 0 v u rfl m)
   |succ i=>
    exact t (λj=>l (j+1)) (λj c u D m=>B (j+1) c u (by simpa using D) m) i y u (by simpa using q) m
  cases h
mutual
theorem aeY(L: ∀k e,H k=aa e->cX β w X k e)(B: ∀b,X1 b->X b): ∀(v:V) {r:V} {y:List dE} {u:Value},(∀k,k∈rk H v-> ∀b,At β k b-> ¬X1 b)->
  ob H v=aa (r,y)->cy y->bq β w X v u->bq ia w X1 r u
 | .bg k gen I l len,r,y,u,q,h,a,o=>by
  simp only[ob] at h;split at h
  ·rename_i x z A;cases h;exact .t _ _ (Qn L B (λj R=>q j (by simpa[rk,va] using R)) A a o)
  cases h
 | .t x,r,y,u,q,h,a,o=>by
  simp only[ob] at h;cases h;cases o with|t _ _ h=>exact .t _ _ (h.mono (Ext.refl _ _) λb _=>B b).zr
 | .aS cs,r,y,u,q,h,a,o=>by
  simp only[ob] at h;cases h;exact o.under (u:=hh) B (λ_ h=>by simp[hh] at h) rfl
 | .ref id l,r,y,u,q,h,a,o=>by
  simp only[ob] at h;split at h
  ·rename_i cs m;split at h
   ·rename_i gb z A;cases h;obtain⟨b,M,rfl⟩:=sM o;obtain⟨jf,n,ty,N,P,nu,tn⟩:=L id _ m;rw[M] at N;cases N;obtain⟨W,F⟩:=PG L B (λk G=>q k (by simp only[rk,m];exact eo _ G)) A a;have Z:b<w.heap.size:=by
     have:=(kB.1 P).1;exact this
    refine .aS (gb.drop l) b l (λj=>n.getD (l+j) undef) Z (q id (by simp[rk]) b (.inl ⟨_,M⟩)) (λj R=>?_) λj x D=>?_
    ·rw[fM] at R
     have:l+j<n.size:=O
     simp[World.cell?,P,this]
    rw[gZ] at D;have R:=(bS.1 D).1
    have:l+j<n.size:=O
    have e:n.getD (l+j) undef=n[l+j]:=by simp[this]
    rw[e];exact F (λi=>n[i]?) (λi c u m p=>tn i c u m p) (l+j) x _ D (by simp[this])
   cases h
  cases h
 | .agg cs,r,y,u,q,h,a,o=>by
  simp only[ob] at h;split at h
  ·rename_i T z A;cases h;cases o with|agg _ n U Q=>
   obtain⟨W,F⟩:=x5 L B cs (λk G=>q k (by simpa[rk] using G)) A a;exact .agg _ n O λi c u m p=>F (λi=>n[i]?) (λi c u m p=>Q i c u m p) i c u m p
  cases h
 | .bM cs,r,y,u,q,h,a,o=>by
  simp only[ob] at h;split at h
  ·rename_i T z A;cases h;cases o with|bM _ n U Q=>
   obtain⟨W,F⟩:=x5 L B cs (λk G=>q k (by simpa[rk] using G)) A a;exact .bM _ n O λi c u m p=>F (λi=>n[i]?) (λi c u m p=>Q i c u m p) i c u m p
  cases h
 | .fn f cs,r,y,u,q,h,a,o=>by
  simp only[ob] at h;split at h
  ·rename_i T z A;cases h;cases o with|fn _ _ n U Q=>
   obtain⟨W,F⟩:=x5 L B cs (λk G=>q k (by simpa[rk] using G)) A a;exact .fn _ _ n O λi c u m p=>F (λi=>n[i]?) (λi c u m p=>Q i c u m p) i c u m p
  cases h
 | .cK _ _ _ _ _,_,_,_,_,h,_,_=>by simp only[ob] at h;cases h
 | .dh,_,_,_,_,h,_,_=>by simp only[ob] at h;cases h
theorem x5(z: ∀k e,H k=aa e->cX β w X k e)(A: ∀b,X1 b->X b): ∀(l:List V) {a:List V} {o:List dE},(∀k,k∈pX H l-> ∀b,At β k b-> ¬X1 b)->
  p' H l=aa (a,o)->cy o->a.length=l.length/\ ∀(m:Nat->Option Value),(∀(i:Nat) c u,l[i]? =aa c->m i=aa u->bq β w X c u)-> ∀(i:Nat) x u,a[i]? =aa x->m i=aa u->bq ia w X1 x u
 | [],_,_,_,h,_=>by simp only[p'] at h;cases h;exact⟨rfl,λ_ _ i x u G=>by simp at G⟩
 |v::l,a,o,B,h,p=>by
  simp only[p'] at h;split at h
  ·rename_i x L M Q R W;cases h;obtain⟨Z,f⟩:=cy.app p;obtain⟨t,D⟩:=x5 z A l (λk q=>B k (by simp only[pX];exact jr _ q)) W f;refine⟨by simp[t],λm F i y u r n=>?_⟩;cases i with
   |zero=>
    simp at r;subst r;exact aeY z A v (λk q=>B k (by simp only[pX];exact kd _ q)) R Z (F 0 v u rfl n)
   |succ i=>
    exact D (λj=>m (j+1)) (λj c u I n=>F (j+1) c u (by simpa using I) n) i y u (by simpa using r) n
  cases h
end
theorem aeZ(r: ∀k e,H k=aa e->cX β w X k e)(x: ∀b,X1 b->X b): ∀{l a:List V} {m:List dE} {us:List Value},(∀k,k∈pX H l-> ∀b,At β k b-> ¬X1 b)->
  p' H l=aa (a,m)->cy m->dH β w X l us->dH ia w X1 a us:=fun {l a m us} y h n q=>by obtain⟨z,A⟩:=x5 r x l y h n;exact Gg (by rw[z];exact q.cW.1) λi c u o p=>A (λi=>us[i]?) (λi c u o p=>q.cW.2 i c u o p) i c u o p
end
theorem ac9{C:eb}(yM:C.P=K.P)(kV:C.G=K.G){c:Operand}{x:Array TypeId}{l:List V}{H:Nat->Option E}{N:List cB}{T:List dE}(cD:kR K.nt d=ab)(hH: ∀k e,H k=aa e->s.H k=aa e)
  (R:l=s.get c::i.toList.map s.get) (h:IZ C d H l N=aa (e,T,L)) (W:cy T):ej K ⟨d,.call {callee:= .value c,args:=i,argTypes:=x},ty,pos,af,g⟩ s (e.app s):=by
 unfold IZ at h;split at h
 ·rename_i f m args;split at h
  ·rename_i r N;split at h
   ·rename_i ys alu n Z;cases h;rw[pB];obtain⟨zt,⟨y,o⟩,_⟩:=cy.app W;rw[yM] at y o;rw[kV] at o;simp only[List.cons.injEq] at R;obtain⟨U,h1,h2,h3⟩:=y;intro β a w next Q q j
    have t:U.name≠ "runtime.NumGoroutine" :=by simpa using h2
    have v:U.body≠aj:=by intro e;simp[e] at h3
    obtain⟨us,D,I⟩:=(R.1.symm▸q.get c).Jj;have z:(execOp a.eval ⟨d,.call {callee:= .value c,args:=i,argTypes:=x},ty,pos,af,g⟩).run K.P w= .ok (.enter f (i.map a.eval++us)) w:=by
     simp[execOp,resolve,Deferred.ofValue,D,invoke,callFunc,h1,t,v]
    unfold Oper.wp;rw[z,Oper.upon_enter];have A:dH β w (own K β s.H) (args++m) (i.toList.map a.eval++us.toList):=by rw[R.2];exact(q.pd i.toList).app I
    let X1:Nat->Prop:=λb=>own K β s.H b/\ ∀k,k∈pX H (args++m)-> ¬At β k b;have p:=aeZ (X1:=X1) (λk e M=>(q.heap k e (hH k e M)).2) (λb n=>n.1) (λk j b n hx=>hx.2 k j n) n zt A;have B:=o w X1 _ q.Dr (λb n=>q.Kq b n.1) p;have M:(List.map a.eval i.toList++us.toList).toArray=i.map a.eval++us:=by rw[<-w3,<-Array.toList_append]
    rw[M] at B;refine B.mono ?_;rintro e w' ⟨u,rfl,F,hu⟩;exact j β _ w' ((q.grow F).put d (h7 cD) (Pm Z hu))
   cases h
  cases h
 cases h
theorem aej{C:eb}(M:C.P=K.P)(N:C.G=K.G){c:Operand}{Q:Array Operand}{x:Array TypeId}{m:List V}{H:Nat->Option E}{b R:List cB}{t:List dE}(T:kR K.nt d=ab)
  (U: ∀k e,H k=aa e->s.H k=aa e) (hu: ∀k,u k=ak->s.u k=ak)
  (z:m=s.get c::Q.toList.map s.get) (h:I1 C d m H u b=aa (e,t,R)) (W:cy t):ej K ⟨d,.call {callee:= .value c,args:=Q,argTypes:=x},ty,pos,af,g⟩ s (e.app s):=by
 unfold I1 at h;split at h
 ·rename_i f A args;split at h
  ·rename_i L a r out b;split at h
   ·rename_i Z hM gI hi n;cases h;simp only[List.cons.injEq] at z;simp only[b9] at n;obtain⟨⟨p,B⟩,i⟩:=n;have i:=de i;obtain⟨⟨D,q⟩,_⟩:=W;rw[M] at D q;rw[N] at q;obtain⟨aN,a2⟩:=yb _ _ gI;obtain⟨i1,i2⟩:=BI _ _ hi;have hx:=aaA (K:=K) (s:=s) (o:=⟨d,.call {callee:= .value c,args:=Q,argTypes:=x},ty,pos,af,g⟩) c L a A rfl z.1.symm D (h7 T) (by rw[<-z.2,aN];exact nL _) a2 i1
     (λk e l=>by
      obtain⟨id,h1,h2,h4⟩:=i2 k e l;exact⟨id,h1,U _ _ h2,h4⟩)
     (Be p) (λid hid=>hu _ (MC B id hid)) (λ_=>i) q
    have hj:=hx.j;have l:c8.app ⟨fK d (r.eB (L++a)),(L++a).zip (out.map λe=>aa (e.eB (L++a))),(L++a).map λk=>(k,ab)⟩ s=(s.after (L++a) out).put d (r.eB (L++a)):=by
     have e1:dw s.H ((L++a).zip (out.map λe=>aa (e.eB (L++a))))=l4 s.H (L++a) (λk=>(out[k]?).map (E.eB (L++a))):=by
      have:=MO (L++a) (Be p) s.H (out.map λe=>aa (e.eB (L++a))) (λk=>(out[k]?).map (E.eB (L++a))) (by simpa using i) (λk e l=>by
       rw[eL] at l;cases I:out[k]? with
       |none=>rw[I] at l;cases l
       |some y=>rw[I] at l;simp at l;rw[<-l];rfl)
      exact this
     have e2:dw s.u ((L++a).map λk=>(k,ab))=l4 s.u (L++a) (λ_=>ab):=by
      funext id;by_cases F:id∈L++a
      ·obtain⟨k,hk⟩:=jQ.1 F;rw[pq (Be p) hk];exact MQ F
      rw[ov F,nB _ _ _ λv z=>F (by obtain⟨y,hy,e⟩:=eA.1 z;cases e;exact hy)]
     unfold c8.app S.after;cases d<;>simp only[fK,dw,S.put,e1,e2]
    grind
   cases h
  cases h
 cases h
theorem Zx{C:eb}(r:ek K.P C.cn){H:Nat->Option E}{v:V}(y: ∀k e,H k=aa e->s.H k=aa e)
  (z:s.get x=v) (h:H8 C t H v l=aa (e,m,c)) (a:cy m):ej K ⟨aj,.call {callee:= .builtin .clear,args:= #[x],argTypes:= #[t]},ty,pos,af,g⟩ s (e.app s):=by
 unfold H8 at h;split at h
 ·cases h
 rename_i i A;split at h
 ·rename_i n o;have B:K.P.underlying t=aa (.slice n):=(r _ _ A).jo.2.2.2 n o;split at h
  ·cases h
  rename_i j F;obtain⟨W,G,_⟩:=r _ _ F;split at h
  ·rename_i p;split at h
   ·rename_i L Q;cases h;obtain⟨rfl,rfl,q,⟨R,rfl⟩,_⟩:=a;exact aea x _ _ _ n _ _ _ z (y _ _ L) B G Q p q R
   cases h
  cases h
 cases h
theorem aaR{C:eb}(B:ek K.P C.cn){F:TypeId}{H:Nat->Option E}{v w:V}{G:List cB}{L:List dE}(Z: ∀k e,H k=aa e->s.H k=aa e)(b:kR K.nt d=ab)
  (f:s.get x=v) (u:s.get y=w) (h:Im C d t H v w G=aa (e,L,n)) (o:cy L):ej K ⟨d,.call {callee:= .builtin .copy,args:= #[x,y],argTypes:= #[t,F]},ty,pos,af,g⟩ s (e.app s):=by
 unfold Im at h;split at h
 ·cases h
 rename_i i D;split at h
 ·rename_i p q;have I:K.P.underlying t=aa (.slice p):=(B _ _ D).jo.2.2.2 p q;split at h
  ·cases h
  rename_i j Q;obtain⟨rZ,M,_⟩:=B _ _ Q;split at h
  ·rename_i k gen W r z a R m G N;split at h
   ·rename_i T c A l U hp;cases h;obtain⟨rfl,rfl,rfl,rfl,b8,⟨cI,rfl⟩,_⟩:=o;have Q:=afs (K:=K) (s:=s) (d:=d) (ty:=ty) (pos:=pos) (af:=af) (g:=g) (gen:=c) (size:=j.size) x y k r z p T F l a (h7 b) f (by rw[u,<-N];exact u' w) (Z _ _ U) I M (by simpa[Nat.blt_eq] using hp) b8 cI
    have: ∀v e,c8.app ⟨fK d v,[(k,aa e)],[]⟩ s=({s with H:=a8 s.H k (aa e)}:S).put d v:=by intro v e;cases d<;>rfl
    grind
   cases h
  cases h
 cases h
theorem afa{C:eb}(z:ek K.P C.cn)(D:C.P=K.P)(N:C.G=K.G)(cY:C.nt=K.nt)(T:C.dV=K.dV){m:List V}{H:Nat->Option E}{I W:List cB}{Z:List dE}
  (a:m=o.op.operands.toList.map s.get) (F: ∀k e,H k=aa e->s.H k=aa e) (R: ∀k,u k=ak->s.u k=ak) (h:Ji C o m H u I=aa (e,Z,W)) (l:cy Z):ej K o s (e.app s):=by
 obtain⟨d,b,ty,pos,af,g⟩:=o;unfold Ji at h;dsimp only at h;split at h
 ·cases h
 rename_i q;rw[cY] at q;have L: ∀{b:Op} {r:jV},m=b.operands.toList.map s.get->(match yI C.P C.cn H b m I with|some (v,Z,I)=>aa ((⟨fK d v,[],[]⟩:c8),Z,I)|none=>aj)=aa (e,Z,W)->ej K ⟨d,b,ty,pos,af,g⟩ s (e.app s):=by
  intro b r a h;split at h
  ·rename_i v als akY n;cases h;rw[pB];rw[D] at n;exact Xz (vals:=m) (h7 q) (fU.of_eq a.symm) ((ae' z n l).sub F)
  cases h
 split at h
 ·split at h
  ·simp only[Op.operands,gf,List.map_nil,List.cons.injEq,and_true] at a;split at h
   ·exact aaV q a.symm h
   exact ac8 R q a.symm h
  cases h
 ·split at h
  ·rename_i i hi;exact Zz z hi R q h
  cases h
 ·split at h
  ·simp only[Op.operands,gf,List.map_nil,List.cons.injEq,and_true] at a;split at h
   ·rename_i n;cases h;exact Zs z rfl F a.1.symm a.2.symm n l
   exact Yp z F a.1.symm a.2.symm h l
  cases h
 ·split at h
  ·simp only[Op.operands,gf,List.map_nil,List.cons.injEq,and_true] at a;exact aaP z R q a.1.symm a.2.symm h l
  cases h
 ·split at h
  ·rename_i n;cases h;exact ac1 z R q (by simpa[Op.operands] using a) n l
  exact aaQ z R q (by simpa[Op.operands] using a) h
 ·rename_i c;obtain⟨M,args,Q⟩:=c;dsimp only at h;split at h
  ·rename_i f;split at h
   ·exact aej D N q F R (by simpa[Op.operands,Call.operands] using a) h l
   split at h
   ·exact ac9 D N q F (by simpa[Op.operands,Call.operands] using a) h l
   exact aaU D N q (by simpa[Op.operands,Call.operands] using a) h l
  ·split at h
   ·rename_i x y t U v w j A;have B:args= #[x,y]:=by rw[<-j]
    have p:Q= #[t,U]:=by rw[<-A]
    subst B;subst p;simp only[Op.operands,Call.operands] at a;simp at a;split at h
    ·rename_i n;cases h;exact Yr z T F q a.1.symm a.2.symm n l
    exact XX z F q a.1.symm a.2.symm h l
   cases h
  ·split at h
   ·rename_i x t v j A;have B:args= #[x]:=by rw[<-j]
    have p:Q= #[t]:=by rw[<-A]
    subst B;subst p;simp only[Op.operands,Call.operands] at a;simp at a;exact Zx z F a.symm h l
   cases h
  ·split at h
   ·rename_i x y t U v w j A;have B:args= #[x,y]:=by rw[<-j]
    have p:Q= #[t,U]:=by rw[<-A]
    subst B;subst p;simp only[Op.operands,Call.operands] at a;simp at a;exact aaR z F q a.1.symm a.2.symm h l
   cases h
  ·exact L (r:=aj) a h
  cases h
 exact L (r:=aj) a h
def aiN:V->List Nat
 | .ref id _=>[id]
 | .bg id _ _ _ _=>[id]
 | .cK id _ _ _ _=>[id]
 |_=>[]
def I6:List V->List Nat
 | []=>[]
 |v::a=>aiN v++I6 a
def S5:List cB->List Nat
 | .nat k::a=>k::S5 a
 |_=>[]
def aiM:List cB->List Nat
 | .b ab::c=>S5 c
 | .nat k::_=>[k]
 | .int _:: .nat k::_=>[k]
 | .dR L a _ _::_=>L++a
 | .lt k _ _::_=>[k]
 |_=>[]
def jx(k:Nat):List Nat->Bool
 | []=>ak
 |x::l=>bif b5 x k then ab else jx k l
theorem B'{k:Nat}: ∀{l:List Nat},jx k l=ab->k∈l
 | [],h=>by cases h
 |x::l,h=>by
  simp only[jx] at h;cases a:b5 x k with
  |true=>rw[de a];exact eD
  |false=>rw[a] at h;exact eo _ (B' h)
def vn(a:List Nat)(H:Nat->Option E):Nat->Option E:=λk=>bif jx k a then H k else aj
def vm(a:List Nat)(u:Nat->Bool):Nat->Bool:=λk=>bif jx k a then u k else ab
theorem ZF{H:Nat->Option E}{e:E}(h:vn r H k=aa e):H k=aa e:=by
 unfold vn at h
 grind
theorem XZ(h:vm r u k=ak):u k=ak:=by
 unfold vm at h
 grind
def afX:Op->List V->Bool
 | .nilCheck _,[.cK _ _ _ _ _]=>ak
 | .move _,_| .assign _,_| .pick _ _ _,_| .nilCheck _,_| .binOp _ _ _ _ _,_| .unOp _ _ _,_| .convert _ _ _,_| .makeFunc _ _ _,_| .extract _ _,_| .field _ _ _,_| .build _ _,_=>ab
 | .fieldAddr _ _ _,[.ref _ _]=>ab
 |_,_=>ak
def agc:Op->Bool
 | .load _ _| .slice _ _ _ _ _| .fieldAddr _ _ _| .indexAddr _ _ _| .index _ _ _| .nilCheck _=>ab
 | .call c=>match c.callee with
  | .builtin .len=>ab
  | .builtin .max=>ab
  | .builtin .min=>ab
  |_=>ak
 |_=>ak
def wa(o:Oper)(a:List V)(c:List cB):List Nat:=match afX o.op a with
 |true=>[]
 |false=>match agc o.op with
  |true=>I6 a
  |false=>I6 a++aiM c
def rC(C:eb)(o:Oper)(a:List V)(s:S)(c:List cB):jV:=Ji C o a (vn (wa o a c) s.H) (vm (wa o a c) s.u) c
def Ka:Bool->Bool->Bool
 |true,ab=>ab
 |false,ak=>ab
 |_,_=>ak
def vH(a:Array Oper)(j:Nat)(s:S):Option V:=match (a[j]?).bind (·.dst) with
 |some t=>aa (s.t t)
 |none=>aj
def tq(C:eb)(h:Array Oper)(o:Oper)(a:List cB)(s:S):jV:=
 match o.guard with
 |none=>rC C o (o.op.operands.toList.map s.get) s a
 |some (j,c)=>match vH h j s with
  |some (.bM [])=>match kR C.nt o.dst with
   |true=>aa (⟨fK o.dst (.bM []),[],[]⟩,[],a)
   |false=>aj
  |some (.t (.bool b))=>match a with
   | .b w::a=>match Ka w c with
    |true=>match rC C o (o.op.operands.toList.map s.get) s a with
     |some (e,i,a)=>aa (e,.p (b=w)::i,a)
     |none=>aj
    |false=>match kR C.nt o.dst with
     |true=>aa (⟨fK o.dst (.bM []),[],[]⟩,[.p (b=w)],a)
     |false=>aj
   |_=>aj
  |_=>aj
end
structure eb.Fits (C:eb) (K:Ctx):Prop where
 T:ek K.P C.cn
 P:C.P=K.P
 G:C.G=K.G
 nt:C.nt=K.nt
 dV:C.dV=K.dV
 hb:C.hb=K.hb
section
variable {K:Ctx}{s:S}{C:eb}
theorem Q9(a:C.Fits K)(h:rC C o (o.op.operands.toList.map s.get) s l=aa (e,m,c))(i:cy m):ej K o s (e.app s):=
 afa a.T a.P a.G a.nt a.dV rfl (λ_ _ h=>ZF h) (λ_ h=>XZ h) h i
theorem acg{w v:Bool}(h:Ka w v=ab):w=v:=by cases w<;>cases v<;>first|rfl|cases h
theorem abj{w v:Bool}(h:Ka w v=ak):w= !v:=by cases w<;>cases v<;>first|rfl|cases h
theorem QJ{a:Array Oper}{j:Nat}{v:V}(h:vH a j s=aa v): ∃t,(a[j]?).bind (·.dst)=aa t/\s.t t=v:=by
 unfold vH at h
 grind
theorem Rl(p:C.Fits K){V:Array Oper}(h:tq C V o l s=aa (e,m,c))(a:cy m):je K V o s (e.app s):=by
 unfold tq at h;split at h
 ·rename_i k;exact je.of k (Q9 p h a)
 rename_i j z k;split at h
 ·rename_i i;obtain⟨t,q,r⟩:=QJ i;split at h
  ·rename_i x;cases h;rw[pB];exact je.skip k q r (h7 (p.nt▸x))
  cases h
 ·rename_i b i;obtain⟨t,q,r⟩:=QJ i;split at h
  ·rename_i w l;split at h
   ·rename_i hw;have hw:=acg hw;subst hw;split at h
    ·rename_i F A B y;cases h;obtain⟨rfl,n⟩:=a;exact je.hM k q r (Q9 p y n)
    cases h
   rename_i hw;have hw:=abj hw;subst hw;split at h
   ·rename_i x;cases h;obtain⟨rfl,_⟩:=a;rw[pB];exact je.out k q r (h7 (p.nt▸x))
   cases h
  cases h
 cases h
theorem aeS{V:Array Oper}{l:List Oper}{Q:S->Prop}(h:je K V o s b)(k:rv K V l b Q):rv K V (o::l) s Q:=
 λβ a w c m n=>h β a w (wpList K.P V c l) c m λe p q i=>k e p q c i n
end
end Go.Lift
