/- Tools. -/
import Derived.Test.YteifkndfpnkalacGreatQLiftTV
namespace Go.Lift
open Go
open Option renaming some -> aa, none -> aj
open Bool renaming true -> ab, false -> ak, and_eq_true -> b5
open Go.Result renaming andThen_ok -> fb
open Go.Builtin renaming zeroCells -> iA
open List renaming replicate -> dq, map_cons -> hX
open Go.Sem renaming run_bind -> ff
open Nat renaming beq -> b4, blt -> df, ble -> cY
section
variable {P:Program}{cf:List (Nat×cn)}{H:Nat->Option E}{d:Option Tmp}{ty:TypeId}{pos:String}{af:Array Edge}{g:Option (Nat×Bool)}
variable {t:TypeId}{u:TypeDesc}{z:Value}{size bytes:Nat}
theorem A2(a:BinOp)(e:OZ a=ab)(x y:Operand)(t h:TypeId)(k:IntKind)(m n:Int):b9 P H ⟨d,.binOp a t x y h,ty,pos,af,g⟩ [.t (.int k m),.t (.int k n)] (.t (.int k (bits a k m n))):=by
 intro i w X l _ c;refine⟨Value.int k (bits a k m n),?_,.t _ _ (.int k _)⟩;cases a<;>simp[OZ] at e<;>
  simp[execOp,dI c.1,dI c.2.1,eqGuard,binOp,intBits_and,intBits_or,intBits_xor,intBits_andNot]
theorem acX(x y:Operand)(t c:TypeId)(m n:List UInt8):b9 P H ⟨d,.binOp .lss t x y c,ty,pos,af,g⟩ [.t (.str m),.t (.str n)] (.t (.bool (Op.bytesLess m n))):=by intro e w X h _ a;refine⟨.bool (Op.bytesLess m n),?_,.t _ _ (.bool _)⟩;simp[execOp,hJ a.1,hJ a.2.1,eqGuard,binOp,Op.stringOp]
theorem acZ(x y:Operand)(t c:TypeId)(m n:List UInt8):b9 P H ⟨d,.binOp .gtr t x y c,ty,pos,af,g⟩ [.t (.str m),.t (.str n)] (.t (.bool (!Op.bytesLess m n&& !m==n))):=by intro e w X h _ a;refine⟨.bool (!Op.bytesLess m n&& !m==n),?_,.t _ _ (.bool _)⟩;simp[execOp,hJ a.1,hJ a.2.1,eqGuard,binOp,Op.stringOp]
theorem acY(x y:Operand)(t c:TypeId)(m n:List UInt8):b9 P H ⟨d,.binOp .leq t x y c,ty,pos,af,g⟩ [.t (.str m),.t (.str n)] (.t (.bool (Op.bytesLess m n||m==n))):=by intro e w X h _ a;refine⟨.bool (Op.bytesLess m n||m==n),?_,.t _ _ (.bool _)⟩;simp[execOp,hJ a.1,hJ a.2.1,eqGuard,binOp,Op.stringOp]
theorem adk(x:Operand)(t:TypeId)(k:IntKind)(n:Int):b9 P H ⟨d,.unOp .neg t x,ty,pos,af,g⟩ [.t (.int k n)] (.t (.int k (k.wrap (0-n)))):=by intro c w X e _ a;refine⟨.int k (k.wrap (0-n)),?_,.t _ _ (.int _ _)⟩;simp[execOp,dI a.1,Op.unary,Op.intArith]
theorem UP(x:Operand)(f:FuncId)(a:List V):b9 P H ⟨d,.nilCheck x,ty,pos,af,g⟩ [.fn f a] (.fn f a):=by intro h w X c _ i;have e:bp h w X (.fn f a) (c x):=i.1;refine⟨c x,?_,e⟩;generalize k:c x=y at e;cases e with|fn=>simp[execOp,k]
variable {a v b:V}{x y:Operand}{l:TypeId}{k n i c p:List cq}{m e r:List du}{w:World}{X:Nat->Prop}
theorem aaa{a:BinOp}{t:TypeId}{k:IntKind}{m n:Int}(h:GR a k m n i=aa (v,e,c))(o:cr e):
  b9 P H ⟨d,.binOp a t x y l,ty,pos,af,g⟩ [.t (.int k m),.t (.int k n)] v:=by
 cases a<;>simp only[GR,Pj,Option.some.injEq,Prod.mk.injEq,reduceCtorEq] at h<;>obtain⟨rfl,rfl,rfl⟩:=h
 ·exact adu _ _ _ _ _ _ _
 ·exact adf _ _ _ _ _ _ _
 ·exact adl _ _ _ _ _ _ _
 ·exact adh _ _ _ _ _ _ _ o.1
 ·exact adg _ _ _ _ _ _ _ o.1
 ·exact A2 .and rfl _ _ _ _ _ _ _
 ·exact A2 .or rfl _ _ _ _ _ _ _
 ·exact A2 .xor rfl _ _ _ _ _ _ _
 ·exact A2 .andNot rfl _ _ _ _ _ _ _
 ·exact ads _ _ _ _ _ _ _
 ·exact adj _ _ _ _ _ _ _
 ·exact ado _ _ _ _ _ _ _
 ·exact adp _ _ _ _ _ _ _
 ·exact adq _ _ _ _ _ _ _
 exact adr _ _ _ _ _ _ _
theorem aay{a:BinOp}{t:TypeId}{m n:List UInt8}(h:G1 a m n i=aa (v,e,c))(k:cr e):
  b9 P H ⟨d,.binOp a t x y l,ty,pos,af,g⟩ [.t (.str m),.t (.str n)] v:=by
 unfold G1 at h;split at h<;>cases h
 ·obtain⟨o,rfl⟩:=aa0 k.1;exact adt _ _ _ _ _ _ o
 ·exact ac1 _ _ _ _ _ _
 ·exact acW _ _ _ _ _ _
 ·exact ac0 _ _ _ _ _ _
 ·exact acX _ _ _ _ _ _
 ·exact acZ _ _ _ _ _ _
 exact acY _ _ _ _ _ _
theorem LL(a:dZ P cf)(h:GB (dy cf t)=ab):P.underlying t=aa .bool:=by
 unfold GB at h;split at h
 ·rename_i i c;split at h
  ·rename_i e;exact(a _ _ c).iU.1 e
  cases h
 cases h
theorem E5(a:dZ P cf)(h:wL (dy cf t)=ab):P.underlying t=aa .string:=by
 unfold wL at h;split at h
 ·rename_i i c;split at h
  ·rename_i e;exact(a _ _ c).iU.2.2.1 e
  cases h
 cases h
theorem Am(a:dZ P cf)(h:w7 (dy cf t)=ab): ∃e,P.underlying t=aa (.slice e):=by
 unfold w7 at h;split at h
 ·rename_i i c;split at h
  ·rename_i e k;exact⟨e,(a _ _ c).iU.2.2.2 e k⟩
  cases h
 cases h
theorem vR{T:Map}{u:Value}(h:bp T w X (.t .gJ) u):u= .nilIface:=by cases h with|t _ _ h=>cases h with|gJ=>rfl
theorem OA{T:Map}{u:Value}(h:bp T w X (.t .err) u): ∃t v,u= .iface t v:=by cases h with|t _ _ h=>cases h with|err t v=>exact⟨t,v,rfl⟩
theorem Ts(w:World)(n:Nat){ms}(a:TypeId)(b:Value)(c:P.underlying t=aa (.interface ms)):(Op.equalIn (n+1) t (.iface a b) .nilIface).run P w= .ok ak w:=by simp[Op.equalIn,run_underlying c]
theorem SV(w:World)(n:Nat){ms}(a:P.underlying t=aa (.interface ms)):(Op.equalIn (n+1) t .nilIface .nilIface).run P w= .ok ab w:=by simp[Op.equalIn,run_underlying a]
theorem Ls(w:World){ms}(a:TypeId)(b:Value)(c:P.underlying t=aa (.interface ms)):(Op.equal t (.iface a b) .nilIface).run P w= .ok ak w:=Ts w 9999 a b c
theorem Lg(w:World){ms}(a:P.underlying t=aa (.interface ms)):(Op.equal t .nilIface .nilIface).run P w= .ok ab w:=SV w 9999 a
theorem Xg(a b):binOp .eql t (.iface a b) .nilIface=(do pure (.bool (<-Op.equal t (.iface a b) .nilIface))):=rfl
theorem Xf(a b):binOp .neq t (.iface a b) .nilIface=(do pure (.bool (!(<-Op.equal t (.iface a b) .nilIface)))):=rfl
theorem XN:binOp .eql t .nilIface .nilIface=(do pure (.bool (<-Op.equal t .nilIface .nilIface))):=rfl
theorem XM:binOp .neq t .nilIface .nilIface=(do pure (.bool (!(<-Op.equal t .nilIface .nilIface)))):=rfl
theorem Lt(w:World)(o:BinOp)(x y:Operand)(a:(pE x||pE y)=ab):(eqGuard o t x y .nilIface .nilIface).run P w= .ok () w:=by cases x<;>cases y<;>simp[pE] at a<;>simp[eqGuard]<;>split<;>simp
theorem ac6(x y:Operand)(e:TypeId){ms}(h:P.underlying t=aa (.interface ms)):b9 P H ⟨d,.binOp .eql t x y e,ty,pos,af,g⟩ [.t .err,.t .gJ] (.t (.bool ak)):=by intro k w X l _ c;obtain⟨a,b,i⟩:=OA c.1;refine⟨.bool ak,?_,.t _ _ (.bool _)⟩;simp[execOp,i,vR c.2.1,eqGuard,Xg,Ls w a b h]
theorem ac5(x y:Operand)(e:TypeId){ms}(h:P.underlying t=aa (.interface ms)):b9 P H ⟨d,.binOp .neq t x y e,ty,pos,af,g⟩ [.t .err,.t .gJ] (.t (.bool ab)):=by intro k w X l _ c;obtain⟨a,b,i⟩:=OA c.1;refine⟨.bool ab,?_,.t _ _ (.bool _)⟩;simp[execOp,i,vR c.2.1,eqGuard,Xf,Ls w a b h]
theorem ac3(x y:Operand)(c:TypeId){ms}(e:P.underlying t=aa (.interface ms))(h:(pE x||pE y)=ab):b9 P H ⟨d,.binOp .eql t x y c,ty,pos,af,g⟩ [.t .gJ,.t .gJ] (.t (.bool ab)):=by intro i w X k _ a;refine⟨.bool ab,?_,.t _ _ (.bool _)⟩;simp[execOp,vR a.1,vR a.2.1,Lt w _ x y h,XN,Lg w e]
theorem ac2(x y:Operand)(c:TypeId){ms}(e:P.underlying t=aa (.interface ms))(h:(pE x||pE y)=ab):b9 P H ⟨d,.binOp .neq t x y c,ty,pos,af,g⟩ [.t .gJ,.t .gJ] (.t (.bool ak)):=by intro i w X k _ a;refine⟨.bool ak,?_,.t _ _ (.bool _)⟩;simp[execOp,vR a.1,vR a.2.1,Lt w _ x y h,XM,Lg w e]
theorem An{a:List (Nat×cn)}(e:dZ P a)(h:GY (dy a t)=ab): ∃ms,P.underlying t=aa (.interface ms):=by
 unfold GY at h;split at h
 ·rename_i i k;split at h
  ·rename_i l;obtain⟨u,n,c⟩:=e _ _ k;simp only[cn.is,l] at c;obtain⟨m,rfl⟩:=c;exact⟨m,n.1⟩
  cases h
 cases h
theorem aab{e:List (Nat×cn)}(q:dZ P e){i:BinOp}(h:GS e i t x y a b k=aa (v,m,c)):
  b9 P H ⟨d,.binOp i t x y l,ty,pos,af,g⟩ [a,b] v:=by
 unfold GS at h;split at h
 ·rename_i n p;obtain⟨ms,o⟩:=An q n;cases h;exact ac6 _ _ _ o
 ·rename_i n p;obtain⟨ms,o⟩:=An q n;cases h;exact ac5 _ _ _ o
 ·rename_i n p;obtain⟨ms,o⟩:=An q n;cases h;exact ac3 _ _ _ o p
 ·rename_i n p;obtain⟨ms,o⟩:=An q n;cases h;exact ac2 _ _ _ o p
 cases h
theorem TB(w:World)(n:Nat){e}(a:Addr)(l c:Nat)(h:P.underlying t=aa (.slice e)):(Op.equalIn (n+1) t (.slice (aa a) l c) (.slice aj 0 0)).run P w= .ok ak w:=by simp[Op.equalIn,run_underlying h]
theorem Z2(w:World){e}(a:Addr)(l c:Nat)(h:P.underlying t=aa (.slice e)):(Op.equal t (.slice (aa a) l c) (.slice aj 0 0)).run P w= .ok ak w:=TB w 9999 a l c h
theorem aa3(a:Addr)(l c:Nat):binOp .eql t (.slice (aa a) l c) (.slice aj 0 0)=(do pure (.bool (<-Op.equal t (.slice (aa a) l c) (.slice aj 0 0)))):=rfl
theorem aaN(x y:Operand)(n:TypeId)(i:List (List T)){e}(o:P.underlying t=aa (.slice e))(p:i≠[]):b9 P H ⟨d,.binOp .eql t x y n,ty,pos,af,g⟩ [.t (.bD i),.t .fF] (.t (.bool ak)):=by
 intro C w X k _ m;obtain⟨a,l,c,q⟩: ∃a l c,k x= .slice (aa a) l c:=by
  cases m.1 with|t _ _ h=>
  generalize r:k x=u at h;cases h with
  |gn=>exact bz rfl p
  |bD _ b s size A f=>exact⟨_,_,_,rfl⟩
 have B:k y= .slice aj 0 0:=by
  cases m.2.1 with|t _ _ h=>
  generalize r:k y=u at h;cases h;rfl
 refine⟨.bool ak,?_,.t _ _ (.bool _)⟩;simp[execOp,q,B,eqGuard,aa3,Z2 w a l c o]
theorem Z7{i:List (Nat×cn)}(p:dZ P i){k:BinOp}(h:GN i k t a b n=aa (v,m,c))(o:cr m):
  b9 P H ⟨d,.binOp k t x y l,ty,pos,af,g⟩ [a,b] v:=by
 unfold GN at h;split at h
 ·rename_i q;obtain⟨e,r⟩:=Am p q;cases h;exact aaN _ _ _ _ r o.1
 cases h
theorem US(x y:Operand)(e n c a k:Nat){u:TypeDesc}{z:Value}{i m:Nat}(l:P.underlying t=aa (.array n e))(o:cj P e u z i m)(r:k<n):
  b9 P H ⟨d,.indexAddr t x y,ty,pos,af,g⟩ [.ref c a,.t (.int .i64 (k:Int))] (.ref c (a+k*i)):=by
 intro s w X A B h;have cG:=dI h.2.1;obtain⟨b,p,q⟩:=rA h.1;refine⟨.pointer (aa ⟨b,a+k*i,aj⟩),?_,.ref _ _ _ p⟩;simp[execOp,q,cG,Instr.indexAt,asIntOf,run_underlying l,o.run_sizeOf,kl,Instr.sureAddr]
 grind
theorem aah(A:dZ P cf){k:BinOp}{t:TypeId}(h:GX P cf k t a b c=aa (v,e,i))(m:cr e):
  b9 P H ⟨d,.binOp k t x y l,ty,pos,af,g⟩ [a,b] v:=by
 unfold GX at h;split at h
 ·split at h
  ·rename_i B;subst B;exact aaa h m
  cases h
 ·exact aay h m
 ·split at h
  ·rename_i n;cases h;exact ac8 _ _ _ _ _ (LL A n)
  ·rename_i n;cases h;exact ac7 _ _ _ _ _ (LL A n)
  cases h
 ·split at h
  ·rename_i ms o b c p q;cases h;obtain⟨r,s,w,_⟩:=m;rw[yV p,yV q,<-w];exact Zj _ _ _ _ ms o r aW (by simp[s])
  ·rename_i ms o b c p q;cases h;obtain⟨r,s,w,_⟩:=m;rw[yV p,yV q,<-w];exact Zh _ _ _ _ ms o r aW (by simp[s])
  cases h
 cases h
theorem ab4{e:UnOp}(h:G6 e a i=aa (v,m,c)):
  b9 P H ⟨d,.unOp e t x,ty,pos,af,g⟩ [a] v:=by
 unfold G6 at h;split at h<;>cases h
 ·exact adi _ _ _
 exact adk _ _ _ _
theorem VY(k:dZ P cf){i:cn}(l:dy cf t=aa i)(h:Fb cf (aa i)=ab): ∃e,P.underlying t=aa (.slice e)/\P.underlying e=aa (.int .u8):=by
 unfold Fb at h;split at h
 ·rename_i o a;cases a;split at h
  ·rename_i e m;split at h
   ·rename_i j n;split at h
    ·rename_i c;exact⟨e,(k _ _ l).iU.2.2.2 e m,(k _ _ n).iU.2.1 _ c⟩
    cases h
   cases h
  cases h
 cases h
theorem XW(y:dZ P cf){c o:TypeId}{q:List cq}(h:Gq cf c o a p=aa (v,r,q))(s:cr r):
  b9 P H ⟨d,.convert c o x,ty,pos,af,g⟩ [a] v:=by
 unfold Gq at h;split at h
 ·rename_i i j F G;split at h
  ·rename_i L k n m p A;cases h;obtain⟨K,w,_⟩:=y _ _ F;have B:L.wrap n=m:=s.1;rw[<-B];exact OD _ _ _ _ _ K _ w.1 ((y _ _ G).iU.2.1 _ A)
  ·rename_i k n m p A;cases h;have B:UInt8.ofInt n=m:=s.1;rw[<-B];obtain⟨K,w,_⟩:=y _ _ F
   have:=OD (P:=P) (H:=H) (d:=d) (ty:=ty) (pos:=pos) (af:=af) (g:=g) x c o k .u8 K n w.1 ((y _ _ G).iU.2.1 _ A);rw[NF] at this;exact this
  ·rename_i C l p A;split at h
   ·rename_i Q;cases h;have B:C=l.map nA:=s.1;obtain⟨e,R,W⟩:=VY y F Q;rw[B];exact Vr _ _ _ _ _ R W ((y _ _ G).iU.2.2.1 A)
   cases h
  cases h
 cases h
theorem UI(x:Operand)(r gen i a:Nat)(s:TypeId)(sz:Nat)(k:List (List T))(e:List T)(Q:cj P t u z size bytes)(R:kK u=ab)(F:H r=aa (.arr s gen sz k))(o:k[i]? =aa e)(U:a+size<=e.length):
  b9 P H ⟨d,.load t x,ty,pos,af,g⟩ [.cK r gen sz i a] (.agg (((e.drop a).take size).map .t)):=by
 intro V w X ρ G W;obtain⟨q,K⟩:=l3 (G r _ F);obtain⟨b,y,Z⟩:=pQ W.1 K;subst y;have a7:=K;rcases(G r _ F).2 with ⟨A,B⟩|⟨hF,C,A,B,h3,f,D⟩
 ·rw[B] at o;simp at o
 rw[a7] at A;cases A;have I:i<k.length:=(bX.1 o).1;have M:e.length=sz:=f e (bJ o);have p: ∀j,j<size->i*sz+a+j<C.size:=by
  intro j n
  have:(i+1)*sz<=k.length*sz:=eL _ I;rw[fc] at this;omega
 have l: ∀j,j<size->w.cell? ⟨b,i*sz+a+j,aj⟩=aa (C.getD (i*sz+a+j) undef):=λj n=>by
  have:=p j n;simp[World.cell?,B,this]
 refine⟨_,by simp[execOp,Z,Instr.loadAt,Instr.sureAddr,Q.CH w R l];rfl,?_⟩;refine .agg _ _ bZ λj c v h L=>?_;have n:j<size:=by
  have:=(bX.1 h).1;simp at this;omega
 rw[ek,List.getElem?_take_of_lt n,il] at h;simp only[List.getElem?_toArray,List.getElem?_map,List.getElem?_range n,Option.map_some,Option.some.injEq] at L;cases m:e[a+j]? with
 |none=>rw[m] at h;simp at h
 |some N=>
  rw[m] at h;simp at h;rw[<-h]
  have:=p j n;have S:=D i (a+j) e N C[i*sz+a+j] o m (by rw[<-rj];simp[this]);rw[<-L];simp only[Array.getElem?_eq_getElem this,Option.getD_some];exact .t _ _ S
theorem Lr(K:dZ P cf)(h:tD cf H t a n=aa (v,e,p))(w:cr e):
  b9 P H ⟨d,.load t x,ty,pos,af,g⟩ [a] v:=by
 unfold tD at h;split at h
 ·cases h
 rename_i i L;obtain⟨Q,q,l⟩:=(K _ _ L).agg;split at h
 ·rename_i id B;split at h
  ·rename_i cs s;split at h
   ·rename_i m;split at h
    ·rename_i o;cases h;exact aaO _ _ _ _ q (l.trans m) s o
    cases h
   rename_i m;split at h
   ·rename_i c C;cases h;exact aaP _ _ _ _ _ q (l.trans m) s C
   cases h
  cases h
 ·rename_i cs;split at h
  ·rename_i m;split at h
   ·rename_i o;cases h;exact We _ _ q (l.trans m) (eG o)
   cases h
  rename_i m;split at h
  ·cases h;exact Wf _ _ _ q (l.trans m)
  cases h
 ·rename_i id gen R k B;split at h
  ·rename_i y F A r n s m;split at h
   ·rename_i c C;cases h;obtain⟨rfl,rfl,G,_⟩:=w;exact UJ _ _ _ _ _ _ _ _ _ _ q (l.trans m) s G C
   cases h
  ·rename_i y F A r n s m;split at h
   ·rename_i o;cases h;obtain⟨rfl,rfl,G,_⟩:=w;exact UI _ _ _ _ _ _ _ _ _ q (l.trans m) s G (eG o)
   cases h
  cases h
 cases h
theorem Le{j:Nat}: ∀{c:List (Nat×Nat×V)},rW j c=aj-> ∀i v,(i,j,v)∉c
 | [],_,_,_,h=>by cases h
 |h::c,a,i,v,hm=>by
  simp only[rW] at a;cases e:b4 h.2.1 j with
  |true=>rw[e] at a;cases a
  |false=>
   rw[e] at a;rcases ef.1 hm with rfl|hm
   ·simp at e
   exact Le a i v hm
theorem Et{j:Nat}{x:Nat×V}: ∀{c:List (Nat×Nat×V)},rW j c=aa x->(x.1,j,x.2)∈c
 |h::c,a=>by
  simp only[rW] at a;cases e:b4 h.2.1 j with
  |true=>
   rw[e] at a;cases a
   have:=c4 e;subst this;exact en
  |false=>rw[e] at a;exact ec _ (Et a)
theorem y0{I:List (Nat×Nat×V)}{k:Nat}: ∀{n j:Nat} {l:List (Nat×V)},rP I j n=aa l->cr (rU k l)->l.length=n/\ ∀i v,(l.map (·.2))[i]? =aa v->(k,j+i,v)∈I
 |0,_,_,h,_=>by cases h;exact⟨rfl,λi v h=>by simp at h⟩
 |n+1,j,l,h,a=>by
  simp only[rP] at h;split at h
  ·rename_i x p m o;cases h;simp only[rU] at a;obtain⟨e,a⟩:=a;obtain⟨aS,a2⟩:=y0 o a;refine⟨by simp[aS],λi v c=>?_⟩;cases i with
   |zero=>
    simp at c;subst c
    have:=Et m;rw[e] at this;exact this
   |succ i=>
    have:=a2 i v (by simpa using c)
    rwa [show j+1+i=j+(i+1) by omega] at this
  cases h
theorem WQ(X:dZ P cf){W Z:List cq}{M:List du}(h:F6 cf H t a W=aa (v,M,Z))(o:cr M):
  b9 P H ⟨d,.load t x,ty,pos,af,g⟩ [a] v:=by
 unfold F6 at h;split at h
 ·rename_i i id gen N k L r W Q;obtain⟨S,y,n⟩:=(X _ _ Q).agg;split at h
  ·rename_i A m B e R C;split at h
   ·rename_i w;split at h
    ·rename_i c F G;split at h
     ·rename_i b;cases h;obtain⟨rfl,p,s,_⟩:=o;exact C' _ _ _ _ _ A m _ e R r c _ y (n.trans w) C p s F (.inr ⟨λv=>Le G _ _,b,rfl⟩)
     cases h
    ·rename_i c T U F G;cases h;obtain⟨rfl,p,s,rfl,_⟩:=o;exact C' _ _ _ _ _ A m _ e _ r c _ y (n.trans w) C p s F (.inl (Et G))
    cases h
   rename_i w;split at h
   ·rename_i l f G;cases h;obtain⟨rfl,p,s,K⟩:=o;obtain⟨D,I⟩:=y0 G K;exact JW _ _ _ _ _ A m _ e R r _ y (n.trans w) C p s (eG f) (by simp[D]) I
   cases h
  cases h
 ·rename_i i id gen N k L q r W Q;obtain⟨S,y,n⟩:=(X _ _ Q).agg;split at h
  ·rename_i A m B e R C;split at h
   ·rename_i c T ei U w F K;cases h;obtain⟨rfl,p,s,rfl,rfl,_⟩:=o;exact C' _ _ _ _ _ A m _ e _ r c _ y (n.trans w) C p s F (.inl (bJ K))
   ·rename_i w;split at h
    ·rename_i l f G;cases h;obtain⟨rfl,p,s,K⟩:=o;obtain⟨D,I⟩:=y0 G K;exact JW _ _ _ _ _ A m _ e R r _ y (n.trans w) C p s (eG f) (by simp[D]) λj v bR=>jl (I j v bR)
    cases h
   cases h
  cases h
 ·rename_i i id gen N k L q r W Q;obtain⟨S,y,n⟩:=(X _ _ Q).agg;split at h
  ·rename_i A m B e R C;split at h
   ·rename_i c w F b;cases h;obtain⟨rfl,p,s,K⟩:=o;exact C' _ _ _ _ _ A m _ e _ r c _ y (n.trans w) C p s F (.inr ⟨wB K,b,rfl⟩)
   cases h
  cases h
 cases h
theorem WS(C:dZ P cf){k:Nat}(h:F8 cf H t k a n=aa (v,m,c))(r:cr m):
  b9 P H ⟨d,.fieldAddr t x k,ty,pos,af,g⟩ [a] v:=by
 unfold F8 at h;split at h
 ·cases h
 rename_i i K;split at h
 ·rename_i W L;obtain⟨s,y,A,_⟩:=(C _ _ K).st L;have w:P.underlying t=aa (.struct s):=y.1;split at h
  ·cases h
  rename_i F l;rw[<-A,ek] at l;cases q:s[k]? with
  |none=>rw[p7,q] at l;cases l
  |some Q=>
  rw[p7,q] at l;simp only[Option.map_some,Option.some.injEq] at l;subst l;split at h
  ·cases h
  rename_i j R;obtain⟨X,o,_⟩:=C _ _ R;split at h
  ·cases h
  rename_i G;have p:(j.size==0)=ak:=by
   rw[beq_eq_false_iff_ne];intro e;rw[e] at G;cases G
  split at h
  ·cases h;exact UT _ _ _ _ _ _ _ _ _ _ _ w q rfl o p
  ·cases h;exact Wi _ _ _ _ _ _ _ _ _ _ w q rfl o p
  ·split at h
   ·rename_i B;cases h;obtain⟨rfl,rfl,_⟩:=r;exact UL _ _ _ _ _ _ _ _ _ _ _ _ _ _ w q rfl o p _ _ B
   ·rename_i B;cases h;obtain⟨rfl,_⟩:=r;exact UM _ _ _ _ _ _ _ _ _ _ _ _ _ _ w q rfl o p _ B rfl
   cases h
  cases h
 cases h
theorem aae(y:dZ P cf){k:Nat}(h:GV cf t k a n=aa (v,e,c)):
  b9 P H ⟨d,.field t x k,ty,pos,af,g⟩ [a] v:=by
 unfold GV at h;split at h
 ·cases h
 rename_i i B;split at h
 ·rename_i Q C;obtain⟨r,m,s,_⟩:=(y _ _ B).st C;split at h
  ·cases h
  rename_i A l;rw[<-s,ek] at l;cases q:r[k]? with
  |none=>rw[p7,q] at l;cases l
  |some F=>
  rw[p7,q] at l;simp only[Option.map_some,Option.some.injEq] at l;subst l;split at h
  ·cases h
  rename_i j G;obtain⟨R,o,p⟩:=(y _ _ G).agg;split at h
  ·split at h
   ·rename_i w;split at h
    ·rename_i K;cases h;exact MK _ _ _ _ _ _ m q o (.inl ⟨p.trans w,K,rfl⟩)
    cases h
   rename_i w;split at h
   ·rename_i L;cases h;exact MK _ _ _ _ _ _ m q o (.inr ⟨p.trans w,L⟩)
   cases h
  cases h
 cases h
theorem lO{n:Int}(h:0<=n):n=((n.toNat:Nat):Int):=O
theorem aac(G:dZ P cf){l:List du}(h:GU cf H t a b c=aa (v,l,p))(q:cr l):
  b9 P H ⟨d,.indexAddr t x y,ty,pos,af,g⟩ [a,b] v:=by
 unfold GU at h;split at h
 ·cases h
 rename_i i f;split at h
 ·rename_i e K;have B:P.underlying t=aa (.slice e):=(G _ _ f).iU.2.2.2 e K;split at h
  ·cases h
  rename_i j L;obtain⟨D,C,_⟩:=G _ _ L;split at h
  ·rename_i o n;split at h
   ·rename_i r c;split at h
    ·rename_i w;cases h;obtain⟨Q,R⟩:=mG (show az o n=aa r from q.1);rw[lO Q];exact Wh _ _ _ _ _ _ B C R (c4 w)
    cases h
   cases h
  ·rename_i id gen size A len n;split at h
   ·rename_i s I o W w;cases h;obtain⟨rfl,rfl,⟨Q,R⟩,_⟩:=q;have X:n.toNat<len:=O
    have:=c4 w;subst this;have M:=UR (P:=P) (H:=H) (d:=d) (ty:=ty) (pos:=pos) (af:=af) (g:=g) x y e id s A len n.toNat _ _ W B C X
    grind
   ·rename_i m s o N W w;cases h;obtain⟨rfl,⟨Q,R⟩,_⟩:=q;have X:n.toNat<len:=O
    have:=c4 w;subst this;have M:=UK (P:=P) (H:=H) (d:=d) (ty:=ty) (pos:=pos) (af:=af) (g:=g) x y e id _ A len n.toNat _ W rfl B C X
    grind
   cases h
  cases h
 ·rename_i m e K;obtain⟨S,Z,F⟩:=G _ _ f;have B:P.underlying t=aa (.array m e):=by
   simp only[cn.is,K] at F;rw[<-F];exact Z.1
  split at h
  ·cases h
  rename_i j L;obtain⟨D,C,_⟩:=G _ _ L;split at h
  ·rename_i id A n k c;split at h
   ·rename_i w;cases h;rw[show n=(k:Int) from q.1];exact US _ _ _ _ _ _ _ B C (eG w)
   cases h
  cases h
 cases h
theorem WR(o:dZ P cf)(h:F7 cf t a b k=aa (v,e,i))(m:cr e):
  b9 P H ⟨d,.index t x y,ty,pos,af,g⟩ [a,b] v:=by
 unfold F7 at h;split at h
 ·rename_i l n c k p;cases h;obtain⟨q,r⟩:=mG (show az l n=aa c from m.1);rw[lO q];exact Zg _ _ _ _ _ (E5 o p) r
 cases h
theorem Z'(o:dZ P cf)(h:GQ cf H t a i=aa (v,m,c))(k:cr m):
  b9 P H ⟨d,.call {callee:= .builtin .len,args:= #[x],argTypes:= #[t]},ty,pos,af,g⟩ [a] v:=by
 unfold GQ at h;split at h
 ·split at h
  ·rename_i l;cases h;exact XO _ _ (E5 o l)
  cases h
 ·split at h
  ·rename_i l;cases h;obtain⟨e,n⟩:=Am o l;have q:=k.1;rw[<-q];exact Zi _ _ _ n
  cases h
 ·split at h
  ·rename_i p l;cases h;obtain⟨rfl,rfl,rfl,_⟩:=k;obtain⟨e,n⟩:=Am o l;exact XP _ _ _ _ _ _ _ n _ _ p
  ·rename_i p l;cases h;obtain⟨rfl,rfl,_⟩:=k;obtain⟨e,n⟩:=Am o l;exact Wg _ _ _ _ _ _ _ n _ p rfl
  cases h
 cases h
theorem WO(K:dZ P cf){y A:Option Operand}{B:List V}{f S:List cq}{mh:List du}(h:F5 cf H t y A B f=aa (v,mh,S))(n:cr mh):
  b9 P H ⟨d,.slice t x y A aj,ty,pos,af,g⟩ B v:=by
 unfold F5 at h;split at h
 ·rename_i l I;split at h
  ·rename_i a b r f T c;cases h;obtain⟨k,U,M,rfl⟩:=Ah n.1;have p:=E5 K T;unfold rX at c;split at c
   ·cases c;rw[lO k,lO (O:0<=b)];exact UN _ _ _ _ _ _ p O O
   ·cases c
    have:=S9 (P:=P) (H:=H) (d:=d) (ty:=ty) (pos:=pos) (af:=af) (g:=g) x ‹_› l a.toNat p O;rw[<-lO k] at this;simpa using this
   ·cases c
    have:=Tg (P:=P) (H:=H) (d:=d) (ty:=ty) (pos:=pos) (af:=af) (g:=g) x ‹_› l b.toNat p O
    grind
   cases c
  cases h
 ·rename_i C I;split at h
  ·cases h
  rename_i i L;split at h
  ·rename_i e hu;have p:P.underlying t=aa (.slice e):=(K _ _ L).iU.2.2.2 e hu;split at h
   ·rename_i j a b r f Q c;cases h;obtain⟨D,F,_⟩:=n;obtain⟨k,U,M,rfl⟩:=Ah D;obtain⟨qW,s,_⟩:=K _ _ Q;unfold rX at c;split at c
    ·cases c;rw[lO k,lO (O:0<=b)];exact Wb _ _ _ _ _ _ _ p s O O F
    ·cases c
     have:=To (P:=P) (H:=H) (d:=d) (ty:=ty) (pos:=pos) (af:=af) (g:=g) x ‹_› e C a.toNat p s O F;rw[<-lO k] at this;simpa using this
    ·cases c
     have:=Ur (P:=P) (H:=H) (d:=d) (ty:=ty) (pos:=pos) (af:=af) (g:=g) x ‹_› e C b.toNat p s O F
     grind
    cases c
   cases h
  cases h
 ·rename_i id ajJ sz R q I;split at h
  ·rename_i i lP L N;split at h
   ·rename_i e hu;have p:P.underlying t=aa (.slice e):=(K _ _ L).iU.2.2.2 e hu;obtain⟨Hi,hH,N⟩:=Option.bind_eq_some_iff.1 N;have W: ∀{a b:Int},rX y A q I=aa (a,b)->0<=a->0<=b-> ∀β w X (G:Operand->Value),dw β w X I (y.toList.map G++A.toList.map G)->qv q y A G a.toNat b.toNat:=by
     intro a b c D k β w X G F;unfold rX at c;split at c
     ·cases c;refine⟨?_,?_⟩
      ·show G _=_;rw[yF D];exact dI F.1
      show G _=_;rw[yF k];exact dI F.2.1
     ·cases c;refine⟨?_,by show _=_;simp⟩;show G _=_;rw[yF D];exact dI F.1
     ·cases c;refine⟨by show _=_;simp,?_⟩;show G _=_;rw[yF k];exact dI F.1
     cases c
    split at h
    ·rename_i j a b o m f Q c;cases h;obtain⟨rfl,rfl,⟨k,U,M,h4,rfl,rfl⟩,_⟩:=n;obtain⟨qW,s,_⟩:=K _ _ Q;exact acV x y A e id _ R q a.toNat b.toNat Hi hH N p s O O O (W c k O)
    ·rename_i j a b f Q c;cases h;obtain⟨rfl,⟨k,rfl,M⟩,_⟩:=n;obtain⟨qW,s,_⟩:=K _ _ Q;exact aaM x y A e id _ _ R q a.toNat Hi hH N p s O (W c k k)
    ·rename_i j a b o m f Q c;split at h
     ·rename_i Z;cases h;obtain⟨rfl,rfl,rfl,⟨D,k,U,M,rfl,rfl⟩,_⟩:=n;obtain⟨qW,s,_⟩:=K _ _ Q;exact aaL x y A e _ id _ R q a.toNat b.toNat _ Z p s D O O (W c k O)
     cases h
    cases h
   cases h
  cases h
 cases h
theorem VI(B:dZ P cf){l m:Operand}{k:List V}(h:FD cf H t k p=aa (v,r,n))(o:cr r):
  b9 P H ⟨d,.slice t x (aa y) (aa l) (aa m),ty,pos,af,g⟩ k v:=by
 unfold FD at h;split at h
 ·rename_i id W X q s a b c;split at h
  ·rename_i i Z w A;split at h
   ·rename_i e C;have F:P.underlying t=aa (.slice e):=(B _ _ w).iU.2.2.2 e C;obtain⟨G,K,A⟩:=Option.bind_eq_some_iff.1 A;split at h
    ·rename_i j L;cases h;obtain⟨rfl,⟨Q,f,D,I⟩,_⟩:=o;obtain⟨M,R,_⟩:=B _ _ L;rw[lO Q,lO (O:0<=b),lO (O:0<=c)];exact Zf x y l m e id _ _ q s a.toNat b.toNat c.toNat G K A F R O O O
    cases h
   cases h
  cases h
 cases h
theorem XX(p:dZ P cf){l:Operand}{a:List V}(h:Gr cf t a k=aa (v,m,c))(n:cr m):
  b9 P H ⟨d,.slice t x aj (aa y) (aa l),ty,pos,af,g⟩ a v:=by
 unfold Gr at h;split at h
 ·split at h
  ·rename_i i o;split at h
   ·rename_i e q;have r:P.underlying t=aa (.slice e):=(p _ _ o).iU.2.2.2 e q;split at h
    ·rename_i j s;cases h;obtain⟨⟨w,rfl⟩,A,_⟩:=n;obtain⟨F,G,B,rfl⟩:=Ah w;obtain⟨K,C,_⟩:=p _ _ s
     have:=UG (P:=P) (H:=H) (d:=d) (ty:=ty) (pos:=pos) (af:=af) (g:=g) x y l e _ _ r C (Int.toNat_le.2 B) A
     grind
    cases h
   cases h
  cases h
 cases h
theorem Vg(o:dZ P cf){b:Builtin}{c:List TypeId}{e:List Operand}{a:List V}(h:EP cf H b c e a k=aa (v,m,i))(l:cr m):
  b9 P H ⟨d,.call {callee:= .builtin b,args:=e.toArray,argTypes:=c.toArray},ty,pos,af,g⟩ a v:=by
 unfold EP at h;split at h
 ·exact Z' o h l
 ·split at h
  ·rename_i n;subst n;cases h;exact adn _ _ _ _ _ _
  cases h
 ·split at h
  ·rename_i n;subst n;cases h;exact adm _ _ _ _ _ _
  cases h
 cases h
theorem Z8(h:GO H a i=aa (v,e,c))(k:cr e):b9 P H ⟨d,.nilCheck x,ty,pos,af,g⟩ [a] v:=by
 unfold GO at h;split at h
 ·split at h
  ·rename_i o l;cases h;obtain⟨rfl,_⟩:=k;obtain⟨m,n,l⟩:=Option.bind_eq_some_iff.1 l;exact UQ _ _ _ _ _ _ m n l
  cases h
 ·cases h;exact Kq _ _ rfl
 ·cases h;exact Kq _ _ rfl
 ·cases h;exact UP _ _ _
 cases h
theorem WU(p:dZ P cf){c:Array (Nat×Operand)}{a:List V}(h:F' cf t (c.toList.map (·.1)) a n=aa (v,e,k)):
  b9 P H ⟨d,.build t c,ty,pos,af,g⟩ a v:=by
 unfold F' at h;split at h
 ·cases h
 rename_i i q;split at h
 ·rename_i y r;split at h
  ·rename_i cs s w x;cases h;obtain⟨l,m,_,o⟩:=(p _ _ q).st r;exact aaQ c l i.places a cs m o s (by simpa using w) x
  cases h
 cases h
theorem adv(n:dZ P cf){e:Op}{a:List V}(h:xk P cf H e a k=aa (v,m,i))(l:cr m):
  b9 P H ⟨d,e,ty,pos,af,g⟩ a v:=by
 unfold xk at h;split at h
 ·split at h
  ·cases h;exact ac4 _ _
  cases h
 ·split at h
  ·cases h;exact YQ _ _
  cases h
 ·split at h
  ·rename_i b v w c k;cases h;obtain⟨s,_⟩:=l;subst s;cases b
   ·exact UH _ _ _ _ _
   exact UO _ _ _ _ _
  cases h
 ·split at h
  ·split at h
   ·rename_i x;cases h;exact Lr n x l
   exact WQ n h l
  cases h
 ·split at h
  ·exact Z8 h l
  cases h
 ·split at h
  ·split at h
   ·rename_i r p;cases h;exact aah n p l
   split at h
   ·rename_i r p;cases h;exact aab n p
   exact Z7 n h l
  cases h
 ·split at h
  ·exact ab4 h
  cases h
 ·split at h
  ·exact XW n h l
  cases h
 ·rename_i C first q
  split at h
  ·rename_i f y;cases h
   have:first= #[]:=by simpa using y
   subst this;exact Wd _ _ _
  cases h
 ·split at h
  ·exact WO n h l
  split at h
  ·exact VI n h l
  ·exact XX n h l
  cases h
 ·split at h
  ·exact WS n h l
  cases h
 ·split at h
  ·exact aae n h
  cases h
 ·split at h
  ·exact aac n h l
  cases h
 ·split at h
  ·exact WR n h l
  cases h
 ·split at h
  ·split at h
   ·rename_i A;cases h;exact XQ _ _ _ _ A
   cases h
  cases h
 ·exact WU n h
 ·rename_i c;obtain⟨o,args,B⟩:=c;dsimp only at h;split at h
  ·have:=Vg (d:=d) (ty:=ty) (pos:=pos) (af:=af) (g:=g) n h l;simpa using this
  cases h
 cases h
end
section
def j8(P:Program)(G:fq)(f:FuncId)(args:List V)(r:V):Prop:=jy P f/\Ee P G f args r
def kF(P:Program)(G:fq)(f:FuncId)(a:List E)(args:List V)(r:V)(c:List E):Prop:=
 jy P f/\JN P G f a args (ι:=Unit) (λ_=>True) (λ_=>r) λ_=>c
def fx(d:Option Tmp)(v:V):List (Nat×V):=match d with
 |some d=>[(d,v)]
 |none=>[]
def ki(a:Nat):Option Tmp->Bool
 |some d=>df d a
 |none=>ab
theorem hb{K:Ctx}{d:Option Tmp}(h:ki K.nt d=ab): ∀i,d=aa i->df i K.nt=ab:=by intro i a;subst a;exact h
def jh:T->T
 | .fF=> .bD []
 |x=>x
variable {w:World}{X:Nat->Prop}{m:Nat}
theorem dh.x3{x:T}{v:Value}(h:dh w X x v):dh w X (jh x) v:=by
 cases h with
 |fF=>exact .gn _ _
 |bool b=>exact .bool b
 |int k n=>exact .int k n
 |str l=>exact .str l
 |gn a c=>exact .gn a c
 |bD e b m size c f p q i o r y=>exact .bD e b m size c f p q i o r y
 |hP=>exact .hP
 |gJ=>exact .gJ
 |nw=>exact .nw
 |err t v=>exact .err t v
theorem aa9{U:Map}{k:Nat}{c:TypeId}{gen n:Nat}{z:List T}(h:cN U w X k (.arr c gen n (dq m z))):cN U w X k (.arr c gen n (dq m (z.map jh))):=by
 refine⟨h.1,?_⟩;rcases h.2 with ⟨q,l⟩|⟨b,r,q,l,A,F,B⟩
 ·have:m=0:=by simpa using l
  grind
 refine .inr ⟨b,r,q,l,by simpa using A,λo a=>?_,λi j o x u a e C=>?_⟩
 ·obtain⟨G,rfl⟩:=tc.1 a
  grind
 rw[te] at a;split at a
 ·cases a;rw[ek] at e;cases p:z[j]? with
  |none=>rw[p] at e;simp at e
  |some y=>
   rw[p] at e;simp at e;subst e;exact(B i j z y u (by rw[te,aX ‹_›]) p C).x3
 cases a
def lz(a:Nat):Nat->List T->List (List T)
 |0,_=>[]
 |n+1,l=>l.take a::lz a n (l.drop a)
theorem Ax(a:Nat): ∀(n:Nat) (l:List T),l.length=n*a->(lz a n l).length=n/\(∀c,c∈lz a n l->c.length=a)/\(lz a n l).flatten=l
 |0,l,h=>by
  have:l=[]:=by simpa using h
  subst this;exact⟨rfl,λ_ h=>by simp[lz] at h,rfl⟩
 |n+1,l,h=>by
  rw[fc] at h;obtain⟨e,i,k⟩:=Ax a n (l.drop a) bZ;refine⟨by simp[lz,e],?_,by simp[lz,k]⟩;intro c b3;simp only[lz,List.mem_cons] at b3;rcases b3 with rfl|b3
  ·simp;omega
  exact i c b3
structure dQ where
 P:Program
 G:fq
 cf:List (Nat×cn)
 nt:Nat
 dL:Nat
 gM:Map
def idxOf(a:Nat):List Nat->Nat->Option Nat
 | [],_=>aj
 |x::r,k=>bif b4 x a then aa k else idxOf a r (k+1)
theorem Ap{n:Nat}: ∀{L:List Nat} {k m:Nat},idxOf n L k=aa m->k<=m/\L[m-k]? =aa n
 | [],_,_,h=>by cases h
 |x::r,k,m,h=>by
  simp only[idxOf] at h;cases a:b4 x n with
  |true=>rw[a] at h;cases h;rw[c4 a];exact⟨cV _,aW⟩
  |false=>
   rw[a] at h;obtain⟨e,c⟩:=Ap (L:=r) (k:=k+1) h;refine⟨O,?_⟩;rw[show m-k=(m-(k+1))+1 by omega];simpa using c
mutual
def ta(L:List Nat):V->Option V
 | .ref id a=>match idxOf id L 0 with
  |some k=>aa (.ref k a)
  |none=>aj
 | .bn id gen size a c=>match idxOf id L 0 with
  |some k=>aa (.bn k gen size a c)
  |none=>aj
 | .fn f cs=>match s9 L cs with
  |some cs=>aa (.fn f cs)
  |none=>aj
 | .cK id gen size i a=>match idxOf id L 0 with
  |some k=>aa (.cK k gen size i a)
  |none=>aj
 | .t x=>aa (.t x)
 | .aQ x=>aa (.aQ x)
 | .agg cs=>match s9 L cs with
  |some cs=>aa (.agg cs)
  |none=>aj
 |_=>aj
def s9(L:List Nat):List V->Option (List V)
 | []=>aa []
 |c::cs=>match ta L c,s9 L cs with
  |some c,aa cs=>aa (c::cs)
  |_,_=>aj
end
mutual
theorem ada{L:List Nat}: ∀(v e:V),ta L v=aa e->e.ee L=v/\e.ok (fh L.length)=ab
 | .ref id n,e,h=>by
  simp only[ta] at h;split at h
  ·rename_i k o;cases h;obtain⟨_,a⟩:=Ap o;simp only[Nat.sub_zero] at a;have c:=(bX.1 a).1;exact⟨by simp[V.ee,List.getD_eq_getElem?_getD,a],ju.2 c⟩
  cases h
 | .bn id gen size n q,e,h=>by
  simp only[ta] at h;split at h
  ·rename_i k o;cases h;obtain⟨_,a⟩:=Ap o;simp only[Nat.sub_zero] at a;have c:=(bX.1 a).1;exact⟨by simp[V.ee,List.getD_eq_getElem?_getD,a],ju.2 c⟩
  cases h
 | .cK id gen size i n,e,h=>by
  simp only[ta] at h;split at h
  ·rename_i k o;cases h;obtain⟨_,a⟩:=Ap o;simp only[Nat.sub_zero] at a;have c:=(bX.1 a).1;exact⟨by simp[V.ee,List.getD_eq_getElem?_getD,a],ju.2 c⟩
  cases h
 | .fn f cs,e,h=>by
  simp only[ta] at h;split at h
  ·rename_i l m;cases h;obtain⟨p,a⟩:=wS cs l m;exact⟨by simp[V.ee,p],by simpa[V.ok] using a⟩
  cases h
 | .agg cs,e,h=>by
  simp only[ta] at h;split at h
  ·rename_i l m;cases h;obtain⟨p,a⟩:=wS cs l m;exact⟨by simp[V.ee,p],by simpa[V.ok] using a⟩
  cases h
 | .t x,e,h=>by cases h;exact⟨rfl,rfl⟩
 | .aQ x,e,h=>by cases h;exact⟨rfl,rfl⟩
 | .bQ _,_,h| .c9,_,h=>by cases h
theorem wS{L:List Nat}: ∀(cs a:List V),s9 L cs=aa a->jg L a=cs/\gI (fh L.length) a=ab
 | [],_,h=>by cases h;exact⟨rfl,rfl⟩
 |c::cs,a,h=>by
  simp only[s9] at h;split at h
  ·rename_i i e k l;cases h;obtain⟨aS,a2⟩:=ada c i k;obtain⟨m,n⟩:=wS cs e l;exact⟨by simp[jg,aS,m],by simp[gI,a2,n]⟩
  cases h
end
def tR(L:List Nat)(H:Nat->Option E):List Nat->Option (List E)
 | []=>aa []
 |id::c=>match H id with
  |some (.cells cs)=>match s9 L cs,tR L H c with
   |some cs,aa e=>aa (.cells cs::e)
   |_,_=>aj
  |some (.arr ty gen size a)=>match tR L H c with
   |some e=>aa (.arr ty gen size a::e)
   |none=>aj
  |some (.bd h m gen a [])=>match tR L H c with
   |some e=>aa (.bd h m gen a []::e)
   |none=>aj
  |some (.bd _ _ _ _ (_::_))=>aj
  |none=>aj
theorem Ao{L:List Nat}{H:Nat->Option E}: ∀(a:List Nat) (gW:List E),tR L H a=aa gW->gW.length=a.length/\ ∀(k:Nat) (e:E),gW[k]? =aa e-> ∃id,a[k]? =aa id/\H id=aa (e.ee L)/\e.ok (fh L.length)=ab
 | [],_,h=>by cases h;exact⟨rfl,λk e h=>by simp at h⟩
 |id::a,gW,h=>by
  simp only[tR] at h;split at h
  ·rename_i cs hid;split at h
   ·rename_i r l w n;cases h;obtain⟨aS,a2⟩:=Ao a l n;obtain⟨x,y⟩:=wS cs r w;refine⟨by simp[aS],λk e c=>?_⟩;cases k with
    |zero=>simp at c;subst c;exact⟨id,rfl,by rw[hid];simp only[E.ee,x],y⟩
    |succ k=>simp at c;obtain⟨i,o,p⟩:=a2 k e c;exact⟨i,by simpa using o,p⟩
   cases h
  ·rename_i ty gen size q hid;split at h
   ·rename_i l n;cases h;obtain⟨aS,a2⟩:=Ao a l n;refine⟨by simp[aS],λk e c=>?_⟩;cases k with
    |zero=>simp at c;subst c;exact⟨id,rfl,hid,rfl⟩
    |succ k=>simp at c;obtain⟨i,o,p⟩:=a2 k e c;exact⟨i,by simpa using o,p⟩
   cases h
  ·rename_i A m gen q hid;split at h
   ·rename_i l n;cases h;obtain⟨aS,a2⟩:=Ao a l n;refine⟨by simp[aS],λk e c=>?_⟩;cases k with
    |zero=>simp at c;subst c;exact⟨id,rfl,hid,rfl⟩
    |succ k=>simp at c;obtain⟨i,o,p⟩:=a2 k e c;exact⟨i,by simpa using o,p⟩
   cases h
  ·cases h
  cases h
def A'(a:Nat):List Nat->Bool
 | []=>ab
 |x::l=>bif b4 x a then ak else A' a l
theorem Ln{n:Nat}: ∀{l:List Nat},A' n l=ab->n∉l
 | [],_,h=>by cases h
 |x::l,h,hm=>by
  simp only[A'] at h;cases a:b4 x n with
  |true=>rw[a] at h;cases h
  |false=>
   rw[a] at h;rcases ef.1 hm with rfl|hm
   ·simp at a
   exact Ln h hm
def A0:List Nat->Bool
 | []=>ab
 |x::l=>A' x l&&A0 l
theorem zA: ∀{l:List Nat},A0 l=ab->l.Nodup
 | [],_=>List.nodup_nil
 |x::l,h=>by simp only[A0,b5] at h;exact List.nodup_cons.2 ⟨Ln h.1,zA h.2⟩
def Ak(u:Nat->Bool):List Nat->Bool
 | []=>ab
 |x::l=> !u x&&Ak u l
theorem Ky{u:Nat->Bool}: ∀{l:List Nat},Ak u l=ab-> ∀id,id∈l->u id=ak
 | [],_,_,h=>by cases h
 |x::l,h,id,hm=>by
  simp only[Ak,b5,Bool.not_eq_true'] at h;rcases ef.1 hm with rfl|hm
  ·exact h.1
  exact Ky h.2 id hm
theorem Kr{u:Nat->Bool}{n:Nat}: ∀{l:List Nat},n∈l->dn u (l.map λk=>(k,ab)) n=ab
 |x::l,h=>by
  simp only[hX,dn];by_cases a:n∈l
  ·rw[AA _ _ u _ ⟨ab,eo.2 ⟨n,a,rfl⟩⟩];exact Kr a
  rcases ef.1 h with rfl|h
  ·rw[mz _ _ _ (λv c=>a (by obtain⟨y,i,e⟩:=eo.1 c;cases e;exact i)),cc]
  exact bz h a
theorem Kp{a:Type}: ∀(L:List Nat),L.Nodup-> ∀(f:Nat->a) (c:List a) (g:Nat->a),c.length=L.length->(∀(k:Nat) x,c[k]? =aa x->g k=x)->dn f (L.zip c)=lq f L g
 | [],_,f,c,g,_,_=>by simp[dn,lq]
 |l::L,e,f,[],g,h,_=>by simp at h
 |l::L,e,f,x::c,g,h,o=>by
  simp only[List.nodup_cons] at e;simp only[List.zip_cons_cons,dn,lq];rw[Kp L e.2 (bc f l x) c (λk=>g (k+1)) (by simpa using h) (λk y q=>o (k+1) y (by simpa using q)),o 0 x rfl];funext i;by_cases m:i=l
  ·subst m;rw[nn e.1,cc,cc]
  rw[cb _ _ _ _ m];by_cases n:i∈L
  ·obtain⟨k,p⟩:=kx.1 n;rw[oA e.2 p,oA e.2 p]
  rw[nn n,nn n,cb _ _ _ _ m]
abbrev js:=Option (cX×List du×List cq)
def tO(d:Option Tmp)(u:Nat->Bool)(v:V)(a:List cq):js:=
 match a with
 | .nat k::a=>match u k,v.val with
  |false,ab=>aa (⟨fx d (.ref k 0),[(k,aa (.cells v.cs))],[(k,ab)]⟩,[],a)
  |_,_=>aj
 |_=>aj
def Gt(d:Option Tmp)(v:V)(a:List cq):js:=
 match a with
 | .b ab::a=>match (nx v).val,lE (nx v).cs with
  |true,aa c=>aa (⟨fx d (.aQ c),[],[]⟩,[],a)
  |_,_=>aj
 |_=>aj
def QT:List cq->Bool
 | .b ab::_=>ab
 |_=>ak
def F4(C:dQ)(t:TypeId)(H:Nat->Option E)(a v:V)(o:List cq):js:=
 match dy C.cf t with
 |none=>aj
 |some i=>match a with
  | .ref id c=>match H id with
   |some (.cells cs)=>match v.val,nG v.cs,b4 v.cs.length i.size,cY (c+i.size) cs.length with
    |true,ab,ab,ab=>aa (⟨[],[(id,aa (.cells (mQ cs c v.cs)))],[]⟩,[],o)
    |_,_,_,_=>aj
   |_=>aj
  | .cK id gen x k c=>match H id,lE (nx v).cs,o with
   |some (.arr e l n m),aa w,.row r:: .rows h::o=>match (nx v).val,b4 w.length i.size,cY (c+i.size) x with
    |true,ab,ab=>aa (⟨[],[(id,aa (.arr e l n h))],[]⟩,
      [.q l gen,.q n x,.p (m[k]? =aa r),.p (h=m.set k (r.take c++w++r.drop (c+w.length)))],o)
    |_,_,_=>aj
   |_,_,_=>aj
  |_=>aj
def tU(k a n:Nat):List (Nat×Nat×V)->List du
 | []=>[]
 |h::c=>bif cY a h.2.1&&df h.2.1 (a+n) then .q h.1 k::tU k a n c else tU k a n c
def tV(k a n:Nat):List (Nat×Nat×V)->List du
 | []=>[]
 |h::c=>bif cY a h.2.1&&df h.2.1 (a+n) then .p (h.1≠k)::tV k a n c else tV k a n c
def FC(C:dQ)(t:TypeId)(H:Nat->Option E)(a v:V)(w:List cq):js:=
 match dy C.cf t,a,w with
 |some i,.cK id gen y k c,.row r::w=>match H id with
  |some (.bd x m e h o)=>match v.val&&(nG v.cs&&(b4 v.cs.length i.size&&(cY (c+i.size) r.length&&df 0 i.size))),rP o c i.size with
   |true,aa l=>aa (⟨[],[(id,aa (.bd x m e h (tW c v.cs o)))],[]⟩,.q e gen:: .q (aR x m).size y:: .p (h[k]? =aa r)::(rU k l++tU k c i.size o),w)
   |_,_=>aj
  |_=>aj
 |some i,.cK id gen y k c,.int q:: .nat n:: .row r::w=>match H id with
  |some (.bd x m e h o)=>match v.val&&(nG v.cs&&(b4 v.cs.length i.size&&(cY (c+i.size) r.length&&df 0 i.size))),rP ((o.drop q.toNat).take n) c i.size with
   |true,aa l=>aa (⟨[],[(id,aa (.bd x m e h (o.take q.toNat++(tW c v.cs ((o.drop q.toNat).take n)++(o.drop q.toNat).drop n))))],[]⟩,
     .q e gen:: .q (aR x m).size y:: .p (h[k]? =aa r)::(rU k l++(tU k c i.size ((o.drop q.toNat).take n)++(tV k c i.size (o.take q.toNat)++tV k c i.size ((o.drop q.toNat).drop n)))),w)
   |_,_=>aj
  |_=>aj
 |_,_,_=>aj
def wK(z:List T):List (Nat×Nat)->Bool
 | []=>ab
 |p::l=>(match z[p.1]? with|some .fF=>ab|_=>ak)&&wK z l
def Gl(C:dQ)(d:Option Tmp)(t:TypeId)(u:Nat->Bool)(v w:V)(c:List cq):js:=
 match dy C.cf t with
 |none=>aj
 |some i=>match i.u with
  | .slice e=>match dy C.cf e with
   |none=>aj
   |some j=>match v,w,c,lE (ha j.z).cs with
    | .t (.int .i64 n),.t (.int .i64 m),.nat k:: .rows R::c,aa a=>match u k,(ha j.z).val,b4 a.length j.size,df 0 j.size&&cY j.bytes 200000 with
     |false,ab,ab,ab=>aa (⟨fx d (.bn k 1 j.size 0 R.length),[(k,aa (.arr e 1 j.size R))],[(k,ab)]⟩,[.q n.toNat m.toNat,.p (mk n (a.map jh)=aa R),.p (0<=m)],c)
     |_,_,_,_=>aj
    | .t (.int .i64 n),.t (.int .i64 m),.nat k:: .eR _ h q:: .rows R::c,aa a=>match u k,(ha j.z).val&&wK a (aR h q).bk,b4 a.length j.size,df 0 j.size&&cY j.bytes 200000 with
     |false,ab,ab,ab=>aa (⟨fx d (.bn k 1 j.size 0 R.length),[(k,aa (.bd h q 1 R []))],[(k,ab)]⟩,[.q (aR h q).ty e,.q (aR h q).size j.size,.q n.toNat m.toNat,.p (mk n (a.map jh)=aa R),.p (0<=m)],c)
     |_,_,_,_=>aj
    |_,_,_,_=>aj
  |_=>aj
def FE(C:dQ)(d:Option Tmp)(t x:TypeId)(H:Nat->Option E)(v w:V)(m:List cq):js:=
 match dy C.cf t with
 |none=>aj
 |some i=>match i.u with
  | .slice e=>match dy C.cf e with
   |none=>aj
   |some j=>match v,nx w,m with
    | .bn k gen size n o,.t (.bD l),.rows R::m=>match H k with
     |some (.arr r a c h)=>match b4 n 0,b4 j.z.cells.size j.size&&(df 0 j.size&&cY j.bytes 140000),b4 r e&&b4 x t with
      |true,ab,ab=>aa (⟨fx d (.bn k (a+1) size 0 R.length),[(k,aa (.arr r (a+1) c R))],[]⟩,
        [.q a gen,.q c size,.q size j.size,.q o h.length,.p (app h l=aa R),.p (Rows j.size h),.p (Rows j.size l)],m)
      |_,_,_=>aj
     |_=>aj
    |_,_,_=>aj
  |_=>aj
def ER(C:dQ)(d:Option Tmp)(t B:TypeId)(H:Nat->Option E)(v w:V)(x:List cq):js:=
 match dy C.cf t with
 |none=>aj
 |some i=>match i.u with
  | .slice e=>match dy C.cf e with
   |none=>aj
   |some j=>match v,w,x with
    | .bn k gen size o l,.bn dW Q W F y,.rows R::x=>match H k,H dW with
     |some (.bd A m c a []),aa (.bd G b L (X::n) r)=>match b4 o 0&&b4 F 0,b4 j.z.cells.size j.size&&(df 0 j.size&&cY j.bytes 140000),b4 B t&&(tz (aR A m) (n.length+1) r&&tF r) with
      |true,ab,ab=>aa (⟨fx d (.bn k (c+1) size 0 R.length),[(k,aa (.bd A m (c+1) R (iy a.length r)))],[]⟩,
        [.q c gen,.q L Q,.q W size,.q size j.size,.q (aR A m).size size,.q (aR A m).ty e,.q y (n.length+1),.q l a.length,.p (aR G b=aR A m),.p (app a (X::n)=aa R),.p (Rows j.size a),.p (Rows j.size (X::n))],x)
      |_,_,_=>aj
     |some (.arr Z c h a),aa _=>match b4 dW k&&b4 o 0,b4 Z e&&(b4 B t&&df 0 j.size) with
      |true,ab=>aa (⟨fx d (.bn k gen size 0 (l+y)),[(k,aa (.arr Z c h R))],[]⟩,
        [.q c gen,.q Q gen,.q h size,.q W size,.q j.size size,.p (l+y<=a.length),.p (F+y<=a.length),.p (R=a.take l++(a.drop F).take y++a.drop (l+y))],x)
      |_,_=>aj
     |_,_=>aj
    | .bn k gen size o l,.t (.bD []),.int 0::x=>match H k with
     |some (.arr _ c h _)=>match b4 o 0&&df 0 j.size,b4 B t with
      |true,ab=>aa (⟨fx d (.bn k gen size 0 l),[],[]⟩,[.q c gen,.q h size,.q j.size size],x)
      |_,_=>aj
     |_=>aj
    |_,_,_=>aj
  |_=>aj
def vY(d:dt):Nat->List V->Option (List T×List (Nat×Nat×V))
 |_,[]=>aa ([],[])
 |j,v::c=>match vY d (j+1) c with
  |none=>aj
  |some (r,a)=>match d.eA j with
   |some _=>bif v.one then aa (.bD []::r,(0,j,v)::a) else aj
   |none=>match yn v with
    |some x=>aa (x::r,a)
    |none=>aj
def qn:Nat->List V->List (Nat×Nat×V)
 |_,[]=>[]
 |i,v::vs=>(i,0,v)::qn (i+1) vs
def Gm(C:dQ)(d:Option Tmp)(t:TypeId)(n:Nat)(l:List Nat)(u:Nat->Bool)(a:List V)(h:List cq):js:=
 match dy C.cf t with
 |none=>aj
 |some i=>match i.u with
  | .slice e=>match dy C.cf e with
   |none=>aj
   |some j=>match n,h with
    |1,.lt k c m::h=>match k5 (λi=>aa (i*j.size,j.size)) (dq (1*j.size) .c9) (l.zip (ud ((aR c m).eA 0) a)) with
     |none=>aj
     |some cs=>match vY (aR c m) 0 cs with
      |none=>aj
      |some (r,o)=>match u k,b4 cs.length j.size&&b4 (aR c m).size j.size,b4 l.length a.length&&b4 (aR c m).ty e,cY (1*j.size) 16777216,df 0 j.size with
       |false,ab,ab,ab,ab=>aa (⟨fx d (.bn k 1 j.size 0 1),[(k,aa (.bd c m 1 [r] o))],[(k,ab)]⟩,[],h)
       |_,_,_,_,_=>aj
    |n,.lt k c m::h=>match k5 (λi=>aa (i*j.size,j.size)) (dq (n*j.size) .c9) (l.zip (hl a)) with
     |none=>aj
     |some cs=>match u k,b4 j.size 1&&(b4 cs.length n&&nG cs),b4 l.length a.length&&(b4 (aR c m).ty e&&b4 (aR c m).size 1),cY (n*j.size) 16777216,df 0 n with
      |false,ab,ab,ab,ab=>aa (⟨fx d (.bn k 1 1 0 n),[(k,aa (.bd c m 1 (dq n [.bD []]) (qn 0 cs)))],[(k,ab)]⟩,[],h)
      |_,_,_,_,_=>aj
    |_,_=>aj
  |_=>aj
def GP(C:dQ)(d:Option Tmp)(t:TypeId)(n:Nat)(c:List Nat)(u:Nat->Bool)(a:List V)(h:List cq):js:=
 match dy C.cf t with
 |none=>aj
 |some i=>match i.u with
  | .slice e=>match dy C.cf e with
   |none=>aj
   |some j=>match n,c,h with
    |0,[],.nat k::h=>match u k with
     |false=>aa (⟨fx d (.bn k 1 j.size 0 0),[(k,aa (.arr e 1 j.size []))],[(k,ab)]⟩,[],h)
     |true=>aj
    |n,c,.int 1:: .nat k::h=>match k5 (λi=>aa (i*j.size,j.size)) (dq (n*j.size) .c9) (c.zip (hl a)) with
     |none=>aj
     |some cs=>match lE cs with
      |none=>aj
      |some l=>match u k,b4 l.length (n*j.size),b4 c.length a.length,cY (n*j.size) 16777216,df 0 j.size with
       |false,ab,ab,ab,ab=>aa (⟨fx d (.bn k 1 j.size 0 (lz j.size n l).length),[(k,aa (.arr e 1 j.size (lz j.size n l)))],[(k,ab)]⟩,[],h)
       |_,_,_,_,_=>aj
    |n,c,.int 2:: .rows R::h=>match k5 (λi=>aa (i*j.size,j.size)) (dq (n*j.size) .c9) (c.zip (hl a)) with
     |none=>aj
     |some cs=>match lE cs with
      |none=>aj
      |some l=>match b4 l.length (n*j.size),b4 c.length a.length,cY (n*j.size) 16777216 with
       |true,ab,ab=>aa (⟨fx d (.t (.bD R)),[],[]⟩,[.p (lz j.size n l=R)],h)
       |_,_,_=>aj
    |n,c,.int 0::h=>match k5 (λi=>aa (i*j.size,j.size)) (dq (n*j.size) .c9) (c.zip (hl a)) with
     |none=>aj
     |some cs=>match lE cs with
      |none=>aj
      |some l=>match b4 l.length (n*j.size),b4 c.length a.length,cY (n*j.size) 16777216 with
       |true,ab,ab=>aa (⟨fx d (.t (.bD (lz j.size n l))),[],[]⟩,[],h)
       |_,_,_=>aj
    |_,_,_=>aj
  |_=>aj
mutual
def rV:V->Bool
 | .t (.int _ _)| .t (.bool _)| .t (.str _)=>ab
 | .agg cs=>tN cs
 | .bQ cs=>tN cs
 |_=>ak
def tN:List V->Bool
 | []=>ab
 |c::cs=>rV c&&tN cs
end
def xf(H:Nat->Option E):V->Option (T×List du)
 | .bn k gen size h i=>match H k with
  |some (.arr _ c e a)=>aa (.bD a,[.q gen c,.q size e,.q h 0,.q i a.length])
  |some (.bd l m c a [])=>aa (.bD a,[.q gen c,.q size (aR l m).size,.q h 0,.q i a.length])
  |_=>aj
 | .t x=>aa (jh x,[])
 |_=>aj
def Bg(H:Nat->Option E):List V->Option (List T×List du)
 | []=>aa ([],[])
 |v::a=>match xf H v,Bg H a with
  |some (x,c),aa (e,h)=>aa (x::e,c++h)
  |_,_=>aj
mutual
def nc(H:Nat->Option E):V->Option (V×List du)
 | .bn k gen size c h=>match xf H (.bn k gen size c h) with
  |some (x,a)=>aa (.t x,a)
  |none=>aj
 | .t x=>aa (.t (jh x),[])
 | .aQ cs=>aa (.aQ cs,[])
 | .ref id c=>match H id with
  |some (.cells cs)=>match Bg H cs with
   |some (fL,a)=>aa (.aQ (fL.drop c),a)
   |none=>aj
  |_=>aj
 | .agg cs=>match pd H cs with
  |some (e,a)=>aa (.agg e,a)
  |none=>aj
 | .bQ cs=>match pd H cs with
  |some (e,a)=>aa (.bQ e,a)
  |none=>aj
 | .fn f cs=>match pd H cs with
  |some (e,a)=>aa (.fn f e,a)
  |none=>aj
 | .cK _ _ _ _ _=>aj
 | .c9=>aj
def pd(H:Nat->Option E):List V->Option (List V×List du)
 | []=>aa ([],[])
 |v::a=>match nc H v,pd H a with
  |some (x,c),aa (e,h)=>aa (x::e,c++h)
  |_,_=>aj
end
def Pk:List cq->List cq
 | .nat _::hs=>Pk hs
 |hs=>hs
def GW(C:dQ)(d:Option Tmp)(H:Nat->Option E)(a:List V)(e:List cq):js:=
 match a with
 | .fn f c::args=>match Pk (e.drop 1) with
  | .v r::e=>match pd H (args++c),rV r with
   |some (h,i),ab=>aa (⟨fx d r,[],[]⟩,i++[.p (j8 C.P C.G f h r)],e)
   |_,_=>aj
  |_=>aj
 |_=>aj
def Gs(C:dQ)(d:Option Tmp)(c:List V)(e:List cq):js:=
 match c with
 | .fn f a::args=>match e with
  | .v r::e=>match gI gG (hl (args++a)) with
   |true=>aa (⟨fx d r,[],[]⟩,[.p (j8 C.P C.G f (hl (args++a)) r)],e)
   |false=>aj
  | .nat _:: .v r::e=>aa (⟨fx d r,[],[]⟩,[.p (gI gG (hl (args++a))=ab),.p (j8 C.P C.G f (hl (args++a)) r)],e)
  |_=>aj
 |_=>aj
def G5(C:dQ)(d:Option Tmp)(h:List V)(H:Nat->Option E)(u:Nat->Bool)(l:List cq):js:=
 match h with
 | .fn f i::args=>match l with
  | .fo L a r out::l=>match s9 L (hl (args++i)),tR L H L,A0 (L++a)&&Ak u a&&b4 out.length (L++a).length with
   |some c,aa gW,ab=>aa (⟨fx d (r.ee (L++a)),(L++a).zip (out.map λe=>aa (e.ee (L++a))),(L++a).map λk=>(k,ab)⟩,[.p (kF C.P C.G f gW c r out)],l)
   |_,_,_=>aj
  |_=>aj
 |_=>aj
def F9(C:dQ)(t:TypeId)(H:Nat->Option E)(v:V)(n:List cq):js:=
 match dy C.cf t with
 |none=>aj
 |some i=>match i.u with
  | .slice e=>match dy C.cf e with
   |none=>aj
   |some j=>match v,n,lE (ha j.z).cs with
    | .bn k gen size l m,.rows R::n,aa o=>match H k,(ha j.z).val with
     |some (.arr r h a c),ab=>aa (⟨[],[(k,aa (.arr r h a R))],[]⟩,[.q h gen,.q a size,.q o.length size,.p (l+m<=c.length/\R=c.take l++dq m (o.map jh)++c.drop (l+m))],n)
     |_,_=>aj
    |_,_,_=>aj
  |_=>aj
def Gp(C:dQ)(d:Option Tmp)(t:TypeId)(H:Nat->Option E)(v w:V)(r:List cq):js:=
 match dy C.cf t with
 |none=>aj
 |some i=>match i.u with
  | .slice e=>match dy C.cf e with
   |none=>aj
   |some j=>match v,nx w,r with
    | .bn k gen size n o,.t (.bD a),.rows R:: .nat m::r=>match H k,df 0 j.size with
     |some (.arr x l c h),ab=>aa (⟨fx d (.t (.int .i64 m)),[(k,aa (.arr x l c R))],[]⟩,
       [.q l gen,.q c size,.q size j.size,.q m (Nat.min a.length o),.p (Rows j.size a),.p (n+o<=h.length/\R=h.take n++a.take m++h.drop (n+m))],r)
     |_,_=>aj
    |_,_,_=>aj
  |_=>aj
def adC:List cq->Bool
 | .fo _ _ _ _::_=>ab
 |_=>ak
def Hj(C:dQ)(o:Oper)(e:List V)(H:Nat->Option E)(u:Nat->Bool)(h:List cq):js:=
 match ki C.nt o.dst with
 |false=>aj
 |true=>match o.op with
  | .box _ _=>match e with
   | [v]=>match QT h with
    |true=>Gt o.dst v h
    |false=>tO o.dst u v h
   |_=>aj
  | .alloc t=>match dy C.cf t with
   |some i=>tO o.dst u (ha i.z) h
   |none=>aj
  | .store t _ _=>match o.dst,e with
   |none,[a,v]=>match F4 C t H a v h with
    |some r=>aa r
    |none=>FC C t H a v h
   |_,_=>aj
  | .makeSlice t _ _=>match e with
   | [v,w]=>Gl C o.dst t u v w h
   |_=>aj
  | .buildSlice t n l=>match GP C o.dst t n (l.toList.map (·.1)) u e h with
   |some r=>aa r
   |none=>Gm C o.dst t n (l.toList.map (·.1)) u e h
  | .call c=>match c.callee with
   | .value _=>match adC h with
    |true=>G5 C o.dst e H u h
    |false=>match QT h with
     |true=>GW C o.dst H e h
     |false=>Gs C o.dst e h
   | .builtin .append=>match c.args.toList,c.argTypes.toList,e with
    | [_,_],[t,m],[v,w]=>match FE C o.dst t m H v w h with
     |some r=>aa r
     |none=>ER C o.dst t m H v w h
    |_,_,_=>aj
   | .builtin .clear=>match o.dst,c.args.toList,c.argTypes.toList,e with
    |none,[_],[t],[v]=>F9 C t H v h
    |_,_,_,_=>aj
   | .builtin .copy=>match c.args.toList,c.argTypes.toList,e with
    | [_,_],[t,_],[v,w]=>Gp C o.dst t H v w h
    |_,_,_=>aj
   | .builtin _=>match xk C.P C.cf H o.op e h with
    |some (v,k,h)=>aa (⟨fx o.dst v,[],[]⟩,k,h)
    |none=>aj
   |_=>aj
  |_=>match xk C.P C.cf H o.op e h with
   |some (v,k,h)=>aa (⟨fx o.dst v,[],[]⟩,k,h)
   |none=>aj
theorem aaJ{z:Value}{a:List T}(k:(ha z).val=ab)(l:lE (ha z).cs=aa a):z.cells.size=a.length/\ ∀(w:World) (X:Nat->Prop) (j:Nat) (u:Value) (x:T),z.cells[j]? =aa u->(a.map jh)[j]? =aa x->dh w X x u:=by
 have h:=fun(w:World) (X:Nat->Prop)=>(yq (⟨λ_=>aj,λ_ _=>False⟩:Map) w X z).cells k;have i:=oG l;refine⟨by rw[(h default λ_=>False).1,i,dz],λw X j u x m c=>?_⟩;rw[ek] at c;cases e:a[j]? with
 |none=>rw[e] at c;cases c
 |some y=>
  rw[e] at c;simp only[Option.map_some,Option.some.injEq] at c;subst c
  have:=(h w X).2 j (.t y) u (by rw[i,ek,e];rfl) m;cases this with
  |t _ _ n=>exact n.x3
section steps
variable {K:Ctx}{s:S}{d:Option Tmp}{ty:TypeId}{pos:String}{af:Array Edge}{g:Option (Nat×Bool)}
variable {t:TypeId}{u:TypeDesc}{z:Value}{size bytes gen:Nat}
theorem Uq(a:Array Value)(n i j:Nat)(h:i<n)(e:j<a.size):(iA a n).toList[i*a.size+j]? =a[j]? :=by
 have c:i*a.size+j<n*a.size:=by
  have:(i+1)*a.size<=n*a.size:=eL _ h
  grind
 have k:(i*a.size+j)%a.size=j:=by rw[Nat.mul_comm,Nat.mul_add_mod];exact Nat.mod_eq_of_lt e
 simp[iA,c,k,e]
theorem abb(x:Operand)(D c h:Nat)(e e':TypeId)(rows:List (List T))(A:List T)(hx:s.get x= .bn D gen size c h)(hH:s.H D=aa (.arr e' gen size rows))(gF:K.P.underlying t=aa (.slice e)){sz:Nat}(he:cj K.P e u z sz bytes)
  (bR:(ha z).val=ab) (e4:lE (ha z).cs=aa A) (L:A.length=size) (cC:c+h<=rows.length):
  dY K ⟨aj,.call {callee:= .builtin .clear,args:= #[x],argTypes:= #[t]},ty,pos,af,g⟩ s {s with H:=bc s.H D (aa (.arr e' gen size (rows.take c++dq h (A.map jh)++rows.drop (c+h))))}:=by
 intro β a w next Q b3 E
 have R:=b3.get x;rw[hx] at R;have I:=(b3.heap D _ hH).2;obtain⟨q,M⟩:=l3 I;obtain⟨xC,N⟩:=aaJ bR e4;unfold Oper.wp;cases h with
 |zero=>
  obtain⟨kc,cap,o⟩: ∃kc cap,a.eval x= .slice kc 0 cap:=by
   rcases fY R M with ⟨cap,b,n,l5,o,_⟩|⟨_,_,_,o⟩
   ·exact⟨_,cap,o⟩
   exact⟨aj,0,o⟩
  have y:(execOp a.eval ⟨aj,.call {callee:= .builtin .clear,args:= #[x],argTypes:= #[t]},ty,pos,af,g⟩).run K.P w= .ok (.value (.tuple #[])) w:=by
   cases kc<;>simp[execOp,resolve,invoke,builtin,o,Builtin.clear_,run_underlying gF]
  rw[y]
  have:rows.take c++dq 0 (A.map jh)++rows.drop (c+0)=rows:=aW
  refine E β _ _ ?_;rw[this];exact b3.yk D _ hH
 |succ h=>
  rcases fY R M with ⟨cap,b,n,l5,o,kU,hw,hs,cG,pw,hm⟩|⟨_,_,h0,_⟩
  ·subst kU;rcases I.2 with ⟨U,_⟩|⟨cI,C,U,h2,h3,h4,h5⟩
   ·rw[M] at U;cases U
   rw[M] at U;cases U;have F:z.cells.size=size:=by rw[xC,L]
   have p:(iA z.cells (h+1)).toList.length=(h+1)*size:=by rw[p9,size_zeroCells,F]
   have xr:c*size+(h+1)*size<=C.size:=by
    have:(c+(h+1))*size<=rows.length*size:=eL _ cC;rw[fc] at this;omega
   have r: ∀(i j:Nat) (u:Value),i<h+1->j<size->(iA z.cells (h+1)).toList[i*size+j]? =aa u->z.cells[j]? =aa u:=by
    intro i j u aP G hu;rw[<-F] at G hu
    rwa [Uq _ _ _ _ aP G] at hu
   have V: ∀v∈(iA z.cells (h+1)).toList,v.oneCell'=ab:=by
    intro v af2;obtain⟨k,E⟩:=kx.1 af2;have W:=(bX.1 E).1;rw[p] at W;have hp:0<size:=by
     rcases Nat.eq_zero_or_pos size with e0|e0
     ·rw[e0] at W;omega
     exact e0
    have hdiv:k / size<h+1:=(yD hp).2 W;have Qs:k%size<size:=Nat.mod_lt _ hp;have pv:(iA z.cells (h+1)).toList[k / size*size+k%size]? =aa v:=by rw[Nat.div_add_mod'];exact E
    have h9:=r _ _ _ hdiv Qs pv
    have:(A.map jh)[k%size]? =aa (jh A[k%size]):=by rw[ek,bo O];rfl
    exact(bp.t (β:=β) _ _ (N w (λ_=>False) _ _ _ h9 this)).jZ rfl
   have su:=run_storeCells_at K.P b (c*size) e' (iA z.cells (h+1)).toList 0 C w h2 (by rw[p];omega) V;simp only[Nat.add_zero] at su;have y:(execOp a.eval ⟨aj,.call {callee:= .builtin .clear,args:= #[x],argTypes:= #[t]},ty,pos,af,g⟩).run K.P w= .ok (.value (.tuple #[])) (w.setRow b (C.toList.take (c*size)++(iA z.cells (h+1)).toList++C.toList.drop (c*size+(iA z.cells (h+1)).toList.length)).toArray):=by
    simp[execOp,resolve,invoke,builtin,o,Builtin.clear_,run_underlying gF,he.sR,su]
   rw[y];refine E β _ _ (Nt b3 D b e' rows _ C _ hH M h2 (by simp[p];omega) ?_ ?_ ?_)
   ·have:(rows.take c++dq (h+1) (A.map jh)++rows.drop (c+(h+1))).length=rows.length:=bZ
    rw[this];exact h3
   ·intro m l;rw[eS,eS] at l;rcases l with (l|l)|l
    ·exact h4 m (hv l)
    ·rw[(tc.1 l).2,dz];exact L
    exact h4 m (jl l)
   intro i j m j4 re aS a2 a3;have a3:(C.toList.take (c*size)++(iA z.cells (h+1)).toList++C.toList.drop (c*size+(iA z.cells (h+1)).toList.length))[i*size+j]? =aa re:=by simpa using a3
   rw[p] at a3;have B:(C.toList.take (c*size)).length=c*size:=bZ
   by_cases c1:i<c
   ·rw[fr,iV bZ,hS,aX c1] at aS;have G:j<size:=by rw[<-h4 m (bJ aS)];exact(bX.1 a2).1
    have hlt:i*size+j<c*size:=oI c1 G;rw[fr,iV O,hS,aX hlt] at a3;exact .inl ⟨i,m,aS,a2,by simpa using a3⟩
   by_cases c2:i<c+(h+1)
   ·rw[iV bZ,hT bZ] at aS;have l:m=A.map jh:=by
     have:=bJ aS;exact(tc.1 this).2
    subst l;have G:j<size:=by rw[<-L,<-dz (f:=jh)];exact(bX.1 a2).1
    have e1:i*size+j=c*size+((i-c)*size+j):=by rw[Nat.sub_mul];have:=eL size (O:c<=i);omega
    have hlt:(i-c)*size+j<(h+1)*size:=oI O G;rw[e1,iV (by rw[dp,B,p];omega),hT O,B,Nat.add_sub_cancel_left] at a3;exact .inr λw X=>N w X j _ _ (r _ _ _ O G a3) a2
   have Z:(rows.take c++dq (h+1) (A.map jh)).length=c+(h+1):=bZ
   rw[hT O,Z,il,show c+(h+1)+(i-(c+(h+1)))=i by omega] at aS;have G:j<size:=by rw[<-h4 m (bJ aS)];exact(bX.1 a2).1
   have kW:c*size+(h+1)*size<=i*size+j:=by
    have:=eL size (O:c+(h+1)<=i);rw[fc] at this;omega
   rw[hT (by rw[dp,B,p];omega),dp,B,p,il,show c*size+(h+1)*size+(i*size+j-(c*size+(h+1)*size))=i*size+j by omega] at a3;exact .inl ⟨i,m,aS,a2,by simpa using a3⟩
  omega
theorem Xb(k h l c:Nat)(x y:Operand)(e:TypeId)(rows:List (List T))(cM: ∀i,d=aa i->df i K.nt=ab)(hx:s.get x= .bn k gen size 0 h)(hy:s.get y= .bn k gen size l c)(hH:s.H k=aa (.arr e gen size rows))
  (gF:K.P.underlying t=aa (.slice e)) (he:cj K.P e u z size bytes) (hp:0<size) (h1:h+c<=rows.length) (h2:l+c<=rows.length):
  dY K ⟨d,.call {callee:= .builtin .append,args:= #[x,y],argTypes:= #[t,t]},ty,pos,af,g⟩ s
   (({s with H:=bc s.H k (aa (.arr e gen size (rows.take h++(rows.drop l).take c++rows.drop (h+c))))}:S).put d (.bn k gen size 0 (h+c))):=by
 intro β a w next Q b3 hkk
 have D:=b3.get x;rw[hx] at D;have mx:=b3.get y;rw[hy] at mx;have jz:=(b3.heap k _ hH).2;have kV:=jz.1;obtain⟨q,I⟩:=l3 jz;obtain⟨_,i,oo,hi2,sj,uz⟩:=id he;unfold Oper.wp;cases c with
 |zero=>
  obtain⟨kc,cap,M⟩: ∃kc cap,a.eval y= .slice kc 0 cap:=by
   rcases fY mx I with ⟨cap,b,n,l5,p,_⟩|⟨_,_,_,p⟩
   ·exact⟨_,cap,p⟩
   exact⟨aj,0,p⟩
  have afP:rows.take h++(rows.drop l).take 0++rows.drop (h+0)=rows:=aW
  have L:(execOp a.eval ⟨d,.call {callee:= .builtin .append,args:= #[x,y],argTypes:= #[t,t]},ty,pos,af,g⟩).run K.P w= .ok (.value (a.eval x)) w:=by
   rcases fY D I with ⟨ah8,b,n,l5,p,_,_,_,_,cC,_⟩|⟨_,_,_,p⟩
   ·cases kc<;>simp[execOp,resolve,invoke,builtin,p,M,Builtin.append_,run_underlying gF,sizeOf,typeInfo,oo,Builtin.lenOf,Builtin.firstCells,cC,storeCells,loadCells,loadCellsFrom]
   cases kc<;>simp[execOp,resolve,invoke,builtin,p,M,Builtin.append_,run_underlying gF,sizeOf,typeInfo,oo,Builtin.lenOf,Builtin.firstCells,loadCells,loadCellsFrom]
  rw[L];refine hkk β _ w ?_;have om:bc s.H k (aa (E.arr e gen size rows))=s.H:=by
   funext j;by_cases F:j=k
   ·subst F;rw[cc,hH]
   rw[cb _ _ _ _ F]
  rw[afP,om];exact b3.put d cM D
 |succ c=>
  rcases fY mx I with ⟨ad8,b,n,l5,M,kU,hw,hs,cG,pw,hm⟩|⟨_,_,h0,_⟩
  ·subst kU;rcases fY D I with ⟨A,hF,Ig,ahL,p,qJ,af3,N,sp,aiy,BL⟩|⟨h0,_⟩
   ·cases qJ;rcases jz.2 with ⟨g1,_⟩|⟨cI,B,g1,g2,g3,g4,g5⟩
    ·rw[I] at g1;cases g1
    rw[I] at g1;cases g1;have QI:B.size=Ig:=by
     unfold World.shape? at N;rw[g2] at N;simp at N;exact N.2
    obtain⟨C,QL⟩: ∃C,C=(B.toList.drop (l*size)).take ((c+1)*size):=⟨_,rfl⟩
    have hle:(l+(c+1))*size<=B.size:=hA (eL _ h2) g3;rw[fc] at hle;have G:C.length=(c+1)*size:=by rw[QL];simp;omega
    have R: ∀j v,C[j]? =aa v->B[l*size+j]? =aa v/\j<(c+1)*size:=λj v bR=>by
     have F:=(bX.1 bR).1;rw[G] at F;rw[QL,hS,aX F,il] at bR;exact⟨by simpa using bR,F⟩
    have U: ∀r,r<rows.length-> ∃m,rows[r]? =aa m/\m.length=size:=λr xt=>⟨_,bo xt,g4 _ (gp xt)⟩
    have hcell: ∀j v,C[j]? =aa v->w.cell? ((⟨b,l*size,aj⟩:Addr).add j)=aa v:=λj v bR=>by
     rw[kl];simp only[World.cell?,g2];exact(R j v bR).1
    have mw: ∀v,v∈C->v.oneCell'=ab:=λv bR=>by
     obtain⟨j,F⟩:=kx.1 bR;obtain⟨h3,h4⟩:=R j v F;have Qs:j%size<size:=Nat.mod_lt _ hp;have hdiv:j / size<c+1:=(yD hp).2 h4;obtain⟨m,HM,xw⟩:=U (l+j / size) O;have ae0:(l+j / size)*size+j%size=l*size+j:=by rw[fc,rj,Nat.div_add_mod']
     exact(g5 (l+j / size) (j%size) m m[j%size] v HM (bo O) (by rw[ae0];exact h3)).jZ
    have xr:h*size+C.length<=B.size:=by
     rw[G,<-fc];exact hA (eL _ h1) g3
    have W:h+(c+1)<=A:=by
     have:(h+(c+1))*size<=A*size:=by
      rw[eg] at sp;rw[sp,<-QI];exact hA (eL _ h1) g3
     exact Nat.le_of_mul_le_mul_right this hp
    have X:=run_append_room (P:=K.P) w t ty e i gF oo b h A B g2 ⟨b,l*size,aj⟩ (c+1) ad8 C (by rw[sj];exact G) hcell mw W (by rw[sj];exact xr);rw[sj] at X;have L:(execOp a.eval ⟨d,.call {callee:= .builtin .append,args:= #[x,y],argTypes:= #[t,t]},ty,pos,af,g⟩).run K.P w= .ok (.value (.slice (aa ⟨b,0,aj⟩) (h+(c+1)) A)) (w.setRow b (B.toList.take (h*size)++C++B.toList.drop (h*size+C.length)).toArray):=by
     rw[iq] at p;simp[execOp,resolve,invoke,builtin,p,M,X]
    rw[L];have V:(B.toList.take (h*size)).length=h*size:=bZ
    have QG:(B.toList.take (h*size)++C++B.toList.drop (h*size+C.length)).toArray.size=B.size:=bZ
    have Z:(rows.take h).length=h:=by rw[dr];omega
    have f:((rows.drop l).take (c+1)).length=c+1:=by rw[dr,im];omega
    have hrel:=Nt b3 k b e rows (rows.take h++(rows.drop l).take (c+1)++rows.drop (h+(c+1))) B _ hH I g2 QG ?_ ?_ ?_
    ·refine hkk β _ _ (hrel.put d cM ?_);have qL:bp β (w.setRow b (B.toList.take (h*size)++C++B.toList.drop (h*size+C.length)).toArray) (own K β (bc s.H k (aa (.arr e gen size (rows.take h++(rows.drop l).take (c+1)++rows.drop (h+(c+1))))))) (.bn k gen size 0 (h+(c+1))) (.slice (aa ⟨b,0*size,aj⟩) (h+(c+1)) A):=by
      refine .bn k gen size 0 _ A b Ig e kV I (by simpa using af3) ?_ sp W BL;unfold World.shape?;rw[setRow_heap _ _ _ _ _ _ g2];simp only[QG,QI]
     rw[iq] at qL;exact qL
    ·rw[dp,dp,Z,f,im]
     have:h+(c+1)+(rows.length-(h+(c+1)))=rows.length:=O
     rw[this];exact g3
    ·intro m o;rw[eS,eS] at o;rcases o with (o|o)|o
     ·exact g4 m (hv o)
     ·exact g4 m (jl (hv o))
     exact g4 m (jl o)
    intro r j m j4 re aS a2 a3;have a3:(B.toList.take (h*size)++C++B.toList.drop (h*size+C.length))[r*size+j]? =aa re:=by simpa using a3
    refine .inl ?_;by_cases c1:r<h
    ·rw[fr,iV O,hS,aX c1] at aS;have F:j<size:=by rw[<-g4 m (bJ aS)];exact(bX.1 a2).1
     have hlt:r*size+j<h*size:=oI c1 F;rw[fr,iV O,hS,aX hlt] at a3;exact⟨r,m,aS,a2,by simpa using a3⟩
    by_cases c2:r<h+(c+1)
    ·rw[iV (by rw[dp];omega),hT O,Z,hS,aX O,il] at aS;have F:j<size:=by rw[<-g4 m (bJ aS)];exact(bX.1 a2).1
     have e1:r*size+j=h*size+((r-h)*size+j):=by rw[Nat.sub_mul];have:=eL size (O:h<=r);omega
     have hlt:(r-h)*size+j<(c+1)*size:=oI O F;rw[e1,iV (by rw[dp,V,G];omega),hT O,V,Nat.add_sub_cancel_left] at a3;have h9:=(R _ _ a3).1;exact⟨l+(r-h),m,aS,a2,by rw[fc,rj];exact h9⟩
    have afq:(rows.take h++(rows.drop l).take (c+1)).length=h+(c+1):=by rw[dp,Z,f]
    rw[hT O,afq,il,show h+(c+1)+(r-(h+(c+1)))=r by omega] at aS;have F:j<size:=by rw[<-g4 m (bJ aS)];exact(bX.1 a2).1
    have kW:h*size+(c+1)*size<=r*size+j:=by
     have:=eL size (O:h+(c+1)<=r);rw[fc] at this;omega
    rw[hT (by rw[dp,V,G];omega),dp,V,G,il,show h*size+(c+1)*size+(r*size+j-(h*size+(c+1)*size))=r*size+j by omega] at a3;exact⟨r,m,aS,a2,by simpa using a3⟩
   rw[I] at *; cases h0
  omega
theorem VX(k W:Nat)(x y:Operand)(e f:TypeId)(p:List (List T))(j: ∀i,d=aa i->df i K.nt=ab)(v:s.get x= .bn k gen size 0 W)(D:dC (s.get y) (.t (.bD [])))(E:s.H k=aa (.arr f gen size p))
  (X:K.P.underlying t=aa (.slice e)) (I:cj K.P e u z size bytes) (M:0<size):
  dY K ⟨d,.call {callee:= .builtin .append,args:= #[x,y],argTypes:= #[t,t]},ty,pos,af,g⟩ s (s.put d (.bn k gen size 0 W)):=by
 intro N a w next Q F G
 have h:=F.get x;rw[v] at h;have L:=D _ _ _ _ (F.get y);have R:=(F.heap k _ E).2;obtain⟨q,U⟩:=l3 R;obtain⟨_,i,r,V,sj,uz⟩:=id I;unfold Oper.wp;obtain⟨m,cap,A⟩: ∃m cap,a.eval y= .slice m 0 cap:=by
  rcases zK L (Rows.nil size) M with (⟨B,_⟩|⟨b,o,c,_,B,_⟩)|⟨_,m,cap,B⟩
  ·exact⟨aj,0,B⟩
  ·exact⟨_,c,B⟩
  exact⟨m,cap,B⟩
 have C:(execOp a.eval ⟨d,.call {callee:= .builtin .append,args:= #[x,y],argTypes:= #[t,t]},ty,pos,af,g⟩).run K.P w= .ok (.value (a.eval x)) w:=by
  rcases fY h U with ⟨Z,b,n,l5,l,_,_,_,_,cC,_⟩|⟨_,_,_,l⟩
  ·cases m<;>simp[execOp,resolve,invoke,builtin,l,A,Builtin.append_,run_underlying X,sizeOf,typeInfo,r,Builtin.lenOf,Builtin.firstCells,cC,storeCells,loadCells,loadCellsFrom]
  cases m<;>simp[execOp,resolve,invoke,builtin,l,A,Builtin.append_,run_underlying X,sizeOf,typeInfo,r,Builtin.lenOf,Builtin.firstCells,loadCells,loadCellsFrom]
 rw[C];exact G N _ w (F.put d j h)
theorem YB{size off:Nat}{a c:List (List T)}{us cs:List Value}(w:off+m<=a.length)(B:a.length*size<=us.length)(p:cs.length=m*size)(C:m<=c.length)(q: ∀e,e∈a->e.length=size)(l: ∀e,e∈c->e.length=size){R:T->Value->Prop}
  (r: ∀(i j:Nat) (e:List T) (x:T) (u:Value),a[i]? =aa e->e[j]? =aa x->us[i*size+j]? =aa u->R x u)
  (y: ∀(i j:Nat) (e:List T) (x:T) (u:Value),c[i]? =aa e->e[j]? =aa x->cs[i*size+j]? =aa u->R x u):
  ∀(i j:Nat) (e:List T) (x:T) (u:Value),(a.take off++c.take m++a.drop (off+m))[i]? =aa e->e[j]? =aa x->(us.take (off*size)++cs++us.drop (off*size+cs.length))[i*size+j]? =aa u->R x u:=by
 have F:off*size+m*size<=a.length*size:=by rw[<-fc];exact eL _ w
 have A:=MA (us.take (off*size)) cs [] (rows:=a.take off) (news:=c.take m) (n:=off) (size:=size) (by rw[dr];omega) (by rw[dr];omega) (by rw[dr,p];congr 1;omega)
  (λe h=>q e (hv h)) (λe h=>l e (hv h)) (R:=R)
  (λk j e x u aS a2 a3=>by
   rw[hS] at aS a3;split at aS
   ·split at a3
    ·exact r k j e x u aS a2 a3
    cases a3
   cases aS)
  (λk j e x u aS a2 a3=>by
   rw[hS] at aS;split at aS
   ·exact y k j e x u aS a2 a3
   cases aS)
 have o:(us.drop (off*size+cs.length)).length=us.length-(off+m)*size:=by rw[im,p,fc]
 have dV:=MA (us.take (off*size)++cs) ((us.drop (off*size+cs.length)).take ((a.length-(off+m))*size)) ((us.drop (off*size+cs.length)).drop ((a.length-(off+m))*size)) (rows:=a.take off++c.take m) (news:=a.drop (off+m)) (n:=off+m) (size:=size)
  (by rw[dp,dr,dr];omega) (by rw[dp,dr,p,fc];omega)
  (by
   rw[dr,o,im]
   have:(a.length-(off+m))*size=a.length*size-(off+m)*size:=Nat.sub_mul _ _ _;omega)
  (λe h=>by
   rcases eS.1 h with h|h
   ·exact q e (hv h)
   exact l e (hv h)) (λe h=>q e (jl h)) (R:=R) (λk j e x u aS a2 a3=>A k j e x u aS a2 (by simpa using a3))
  (λk j e x u aS a2 a3=>by
   rw[il] at aS;rw[hS] at a3;split at a3
   ·rw[il,p] at a3;refine r (off+m+k) j e x u aS a2 ?_;rw[fc,fc,rj];exact a3
   cases a3)
 intro i j e x u aS a2 a3;refine dV i j e x u aS a2 ?_;rw[fr _ (List.take _ _),nJ];exact a3
theorem acU(x y:Operand)(D c len:Nat)(e e' l4:TypeId)(rows k:List (List T))(cM: ∀i,d=aa i->df i K.nt=ab)(hx:s.get x= .bn D gen size c len)(hy:dC (s.get y) (.t (.bD k)))(hH:s.H D=aa (.arr e' gen size rows))(gF:K.P.underlying t=aa (.slice e))
  (he:cj K.P e u z size bytes) (hp:0<size) (E: ∀r,r∈k->r.length=size) (cC:c+len<=rows.length):
  dY K ⟨d,.call {callee:= .builtin .copy,args:= #[x,y],argTypes:= #[t,l4]},ty,pos,af,g⟩ s
   (({s with H:=bc s.H D (aa (.arr e' gen size (rows.take c++k.take (Nat.min k.length len)++rows.drop (c+Nat.min k.length len))))}:S).put d (.t (.int .i64 (Nat.min k.length len:Nat)))):=by
 intro β a w next Q b3 hk
 have I:=b3.get x;rw[hx] at I;have mx:=hy _ _ _ _ (b3.get y);have M:=(b3.heap D _ hH).2;obtain⟨q,N⟩:=l3 M;obtain⟨_,i,oo,hi2,sj,uz⟩:=he;unfold Oper.wp;have af8: ∃C c1,a.eval x= .slice C len c1:=by
  rcases fY I N with ⟨F,b,n,l5,B,_⟩|⟨_,_,h0,B⟩
  ·exact⟨_,F,B⟩
  subst h0;exact⟨aj,0,B⟩
 have X:=zK mx E hp;have aga: ∃IG c2,a.eval y= .slice IG k.length c2:=by
  rcases X with (⟨A,Z⟩|⟨b,c,F,L,A,_⟩)|⟨Z,kc,F,A⟩
  ·subst Z;exact⟨aj,0,A⟩
  ·exact⟨_,_,A⟩
  subst Z;exact⟨kc,F,A⟩
 obtain⟨m,hm⟩: ∃m,m=Nat.min k.length len:=⟨_,rfl⟩
 rw[<-hm] at hk;by_cases U:m=0
 ·subst U;obtain⟨C,c1,B⟩:=af8;obtain⟨IG,c2,A⟩:=aga;have G:(execOp a.eval ⟨d,.call {callee:= .builtin .copy,args:= #[x,y],argTypes:= #[t,l4]},ty,pos,af,g⟩).run K.P w= .ok (.value (goInt ((0:Nat):Int))) w:=by
   cases C<;>cases IG<;>simp[execOp,resolve,invoke,builtin,B,A,Builtin.copy_,run_underlying gF,sizeOf,typeInfo,oo,Builtin.lenOf,Builtin.firstCells,<-hm,loadCells,loadCellsFrom,storeCells]
  rw[G]
  have:rows.take c++k.take 0++rows.drop (c+0)=rows:=aW
  rw[this] at hk;exact hk β _ _ ((b3.yk D _ hH).put d cM (.t _ _ (.int _ _)))
 have aiB:m<=len:=by rw[hm];exact Nat.min_le_right _ _
 have o:m<=k.length:=by rw[hm];exact Nat.min_le_left _ _
 rcases X with (⟨_,Z⟩|⟨cI,ahj,BB,f,A,ot,HS,qM,hwr⟩)|⟨Z,_⟩
 ·subst Z;simp at o;exact bz o U
 ·rcases fY I N with ⟨F,b,n,l5,B,kU,hw,hs,Z,pw,sn⟩|⟨_,_,h0,_⟩
  ·subst kU;rcases M.2 with ⟨h1,_⟩|⟨V,L,h1,h2,h3,h4,h5⟩
   ·rw[N] at h1;cases h1
   rw[N] at h1;cases h1;have W:(f.take (m*size)).length=m*size:=by rw[dr,ot];have:=eL size o;omega
   have xr:c*size+m*size<=L.size:=by
    have:(c+m)*size<=rows.length*size:=eL _ O;rw[fc] at this;omega
   have Qq:=run_loadCells_list (P:=K.P) w ⟨cI,ahj,aj⟩ (f.take (m*size)) (λj y hj=>by
    rw[kl];rw[hS] at hj;split at hj
    ·exact HS j y hj
    cases hj)
   have su:=run_storeCells_at K.P b (c*size) e' (f.take (m*size)) 0 L w h2 (by rw[W];omega) λv bR=>qM v (hv bR);simp only[Nat.add_zero] at su;rw[W] at Qq;have G:(execOp a.eval ⟨d,.call {callee:= .builtin .copy,args:= #[x,y],argTypes:= #[t,l4]},ty,pos,af,g⟩).run K.P w= .ok (.value (goInt (m:Int))) (w.setRow b (L.toList.take (c*size)++f.take (m*size)++L.toList.drop (c*size+(f.take (m*size)).length)).toArray):=by
    simp[execOp,resolve,invoke,builtin,B,A,Builtin.copy_,run_underlying gF,sizeOf,typeInfo,oo,sj,Builtin.lenOf,Builtin.firstCells,<-hm,Qq,su]
   rw[G];have lj:(L.toList.take (c*size)++f.take (m*size)++L.toList.drop (c*size+(f.take (m*size)).length)).toArray.size=L.size:=by
    have h2: ∀l:List Value,l.toArray.size=l.length:=λl=>aW
    rw[h2];simp only[List.length_append,W,List.length_take,List.length_drop,Array.length_toList];omega
   have hlen:(rows.take c++k.take m++rows.drop (c+m)).length=rows.length:=bZ
   have hb':own K β s.H b:= .inr ⟨D,by rw[hH];simp,.inl ⟨_,N⟩⟩;refine hk β _ _ (Rel.put (Rel.setRow b3 D b (.inl ⟨_,N⟩) L e' h2 _ lj (.arr e' gen size (rows.take c++k.take m++rows.drop (c+m))) (by rw[hH];simp)
    ⟨M.1,Or.inr ⟨b,_,N,setRow_heap _ _ _ _ _ _ h2,by rw[lj,hlen];exact h3,λr p=>?_,λi j r x u aS a2 a3=>?_⟩⟩) d cM (.t _ _ (.int _ _)))
   ·rw[eS,eS] at p;rcases p with (p|p)|p
    ·exact h4 r (hv p)
    ·exact E r (hv p)
    exact h4 r (jl p)
   have h9:=YB (off:=c) (m:=m) (us:=L.toList) (cs:=f.take (m*size)) O (by simpa using h3) W o h4 E (R:=λx u=>dh w (own K β s.H) x u) (λi j r x u di cI V=>h5 i j r x u di cI (by simpa using V))
    (λi j r x u di cI V=>by
     rw[hS] at V;split at V
     ·exact hwr i j r x u di cI V
     cases V) i j r x u aS a2 (by simpa using a3)
   refine h9.mono ⟨rfl,rfl,rfl,aW,λkk _ hx=>setRow_other _ _ _ _ λe0=>hx ?_⟩ λ_ _ h=>h;subst e0;exact hb'
  omega
 subst Z;simp at o;exact bz o U
end steps
end
variable {P:Program}{r:List Nat}{o:Oper}{b:S}{c i n M L:List cq}{k gen size:Nat}{e:cX}{e':E}{t:TypeId}{x y:Operand}{u:Nat->Bool}{m mh:List du}{z:Value}
theorem b9.sub{H r:Nat->Option E}{a:List V}{v:V}(h:b9 P H o a v)(c: ∀k e,H k=aa e->r k=aa e):b9 P r o a v:=
 λβ w X i l m=>h β w X i (λid e n=>l id e (c id e n)) m
theorem dY.IY{K:Ctx}{s c:S}(h:dY K o s b)(m: ∀β a w,Rel K β b a w->Rel K β c a w):dY K o s c:=
 λβ a w next Q n p=>h β a w next Q n λe k l i=>p e k l (m e k l i)
theorem abl{K:Ctx}{β:Map}{H:Nat->Option E}{e:E}(l:H k=aa e):own K β (bc H k (aa e'))=own K β H:=by
 funext b;apply propext;constructor
 ·rintro(h|⟨id,i,a⟩)
  ·exact .inl h
  by_cases c:id=k
  ·subst c;exact .inr ⟨id,by rw[l];simp,a⟩
  rw[cb _ _ _ _ c] at i;exact .inr ⟨id,i,a⟩
 rintro(h|⟨id,i,a⟩)
 ·exact .inl h
 by_cases c:id=k
 ·subst c;exact .inr ⟨id,by rw[cc];simp,a⟩
 exact .inr ⟨id,by rw[cb _ _ _ _ c];exact i,a⟩
theorem Rel.Rf{K:Ctx}{β:Map}{s:S}{a:Act}{w:World}(h:Rel K β s a w)(k:Nat){e:E}(m:s.H k=aa e)(p: ∀X,cN β w X k e->cN β w X k e'):Rel K β {s with H:=bc s.H k (aa e')} a w:=by
 have ew:=abl (K:=K) (β:=β) (e':=e') m;refine {h with heap:= ?_,dB:= ?_}
 ·intro id l n;show _/\cN β w (own K β (bc s.H k (aa e'))) id l;rw[ew];by_cases o:id=k
  ·subst o;have c:bc s.H id (aa e') id=aa l:=n;rw[cc] at c;cases c;obtain⟨q,r⟩:=h.heap id e m
   grind
  have c:bc s.H k (aa e') id=aa l:=n;rw[cb _ _ _ _ o] at c;exact h.heap id l c
 intro i;show bp β w (own K β (bc s.H k (aa e'))) _ _;rw[ew];exact h.dB i
section
variable {K:Ctx}{s:S}{d:Option Tmp}{ty:TypeId}{pos:String}{af:Array Edge}{g:Option (Nat×Bool)}
theorem Oz{f:FuncId}{c:Operand}{k:Array Operand}{l:Array TypeId}(m:List V)(args:List V)(r:V)
  (L:jy K.P f) (R:s.get c= .fn f m) (W: ∀i,d=aa i->df i K.nt=ab) (Z:fG (k.toList.map s.get++m) args) (b:gI gG args=ab) (h:Ee K.P K.G f args r):
  dY K ⟨d,.call {callee:= .value c,args:=k,argTypes:=l},ty,pos,af,g⟩ s (s.put d r):=by
 obtain⟨F,j,t,v⟩:=L;intro β a w next Q o D
 have y:F.name≠ "runtime.NumGoroutine" :=by simpa using t
 have z:F.body≠aj:=by intro e;simp[e] at v
 obtain⟨us,A,B⟩:=(R▸o.get c).Hk;have p:(execOp a.eval ⟨d,.call {callee:= .value c,args:=k,argTypes:=l},ty,pos,af,g⟩).run K.P w= .ok (.enter f (k.map a.eval++us)) w:=by
  simp[execOp,resolve,Deferred.ofValue,A,invoke,callFunc,j,y,z]
 unfold Oper.wp;rw[p,Oper.upon_enter];have n:=(dw.le ((o.oi k.toList).app B) Z).Ij b;have q:=h w (own K β s.H) _ o.BD o.Im n;have I:(List.map a.eval k.toList++us.toList).toArray=k.map a.eval++us:=by rw[<-vA,<-Array.toList_append]
 rw[I] at q;refine q.mono ?_;rintro e M ⟨u,rfl,x,N⟩;exact D β _ M ((o.grow x).put d W (N.any λ_ h=>h))
theorem rs{s:S}{d:Option Tmp}{v:V}{e:E}:cX.app ⟨fx d v,[(k,aa e)],[(k,ab)]⟩ s=(s.new k e).put d v:=by cases d<;>rfl
theorem oK{s:S}{d:Option Tmp}{v:V}:cX.app ⟨fx d v,[],[]⟩ s=s.put d v:=by cases d<;>rfl
theorem aaf{v:V}(a: ∀k,u k=ak->s.u k=ak)(l:ki K.nt d=ab)(n:s.get x=v)
  (h:tO d u v i=aa (e,m,c)):dY K ⟨d,.box t x,ty,pos,af,g⟩ s (e.app s):=by
 unfold tO at h;split at h
 ·split at h
  ·rename_i o p;cases h;rw[rs];exact adX _ (a _ o) x v (hb l) n p
  cases h
 cases h
theorem aaK{H:Nat->Option E}(x:Operand)(v:V)(i:List T)(n:v.val=ab)(k:v.cs=i.map .t):A8 P H ⟨d,.box t x,ty,pos,af,g⟩ [v] (.aQ i):=by
 intro β w X a _ o p;obtain⟨l,q⟩:=(show bp β w X v (a x) from p.1).cells n;have c:(execOp a ⟨d,.box t x,ty,pos,af,g⟩).run P w= .ok (.value (.pointer (aa ⟨w.heap.size,0,aj⟩))) (w.alloc (.cells (a x).cells t)):=by
  simp[execOp,Instr.box,newVar,newRow]
 refine⟨_,_,c,Ext.alloc _ _ _,?_⟩;refine .aQ i w.heap.size 0 (λj=>(a x).cells.getD j undef) aW (λh=>by have:=o _ h;omega) (λj e=>?_) λj y m=>?_
 ·rw[eg,World.cell?_alloc_new]
  have:j<(a x).cells.size:=by rw[l,k];simpa using e
  simp[this]
 have e:j<(a x).cells.size:=by rw[l,k,dz];exact(bX.1 m).1
 have r:=q j (.t y) (a x).cells[j] (by rw[k,ek,m];rfl) (by simp[e]);cases r with
 |t _ _ h=>
  have:(a x).cells.getD j undef=(a x).cells[j]:=by simp[e]
  rw[this];exact h.mono (Ext.alloc X _ _) λ_ _ h=>h
theorem XZ{v:V}(a:ki K.nt d=ab)(k:s.get x=v)
  (h:Gt d v i=aa (e,m,c)):dY K ⟨d,.box t x,ty,pos,af,g⟩ s (e.app s):=by
 unfold Gt at h;split at h
 ·split at h
  ·rename_i l n o;cases h;rw[oK];exact I' (vals:=[nx v]) (hb a) ⟨k▸tG _,trivial⟩ (aaK x _ l n (oG o))
  cases h
 cases h
theorem WV{a:List (Nat×cn)}(l:dZ K.P a){i:cn}(o:dy a t=aa i)(p: ∀k,u k=ak->s.u k=ak)(q:ki K.nt d=ab)
  (h:tO d u (ha i.z) n=aa (e,m,c)):dY K ⟨d,.alloc t,ty,pos,af,g⟩ s (e.app s):=by
 unfold tO at h;split at h
 ·split at h
  ·rename_i r x;cases h;rw[rs];obtain⟨A,y,_⟩:=l _ _ o;exact abc _ (p _ r) (hb q) y x
  cases h
 cases h
theorem WN{l:List (Nat×cn)}(b:dZ K.P l){C:dQ}(f:C.cf=l){H:Nat->Option E}{a v:V}(L: ∀k e,H k=aa e->s.H k=aa e)
  (Q:s.get x=a) (R:s.get y=v) (h:F4 C t H a v n=aa (e,m,c)) (p:cr m):dY K ⟨aj,.store t x y,ty,pos,af,g⟩ s (e.app s):=by
 subst f;unfold F4 at h;split at h
 ·cases h
 rename_i i j;obtain⟨T,W,_⟩:=b _ _ j;split at h
 ·split at h
  ·rename_i cs q;split at h
   ·rename_i z A B u;cases h;exact aba _ _ _ _ cs v Q R (L _ _ q) W z A B u
   cases h
  cases h
 ·split at h
  ·rename_i D Z I o M r F n q G;split at h
   ·rename_i z A B;cases h;obtain⟨rfl,rfl,N,rfl,_⟩:=p;exact Xa x y _ _ _ D o r M Q (v:=nx v) (by rw[R];exact tG v) (oG G) z (L _ _ q) W N (c4 A) (eG B)
   cases h
  cases h
 cases h
theorem Ae{k i n:Nat}: ∀{m:List (Nat×Nat×V)},cr (tU k i n m)-> ∀e c l,(e,c,l)∈m->i<=c->c<i+n->e=k
 |h::m,a,e,c,l,hm,o,p=>by
  simp only[tU] at a;rcases ef.1 hm with rfl|hm
  ·have r:cY i c=ab:=Nat.ble_eq_true_of_le o;have x:df c (i+n)=ab:=by simpa[Nat.blt_eq] using p
   simp only[r,x,Bool.and_self,cond_true] at a;exact a.1
  cases q:(cY i h.2.1&&df h.2.1 (i+n)) with
  |true=>rw[q] at a;exact Ae a.2 e c l hm o p
  |false=>rw[q] at a;exact Ae a e c l hm o p
theorem Af{k off n:Nat}: ∀{l:List (Nat×Nat×V)},cr (tV k off n l)-> ∀e c i,(e,c,i)∈l->off<=c->c<off+n->e≠k
 | [],_,_,_,_,hm,_,_=>by cases hm
 |h::l,a,e,c,i,hm,m,o=>by
  unfold tV at a;rcases ef.1 hm with rfl|hm
  ·have q:cY off c=ab:=Nat.ble_eq_true_of_le m;have r:df c (off+n)=ab:=by simpa[Nat.blt_eq] using o
   simp only[q,r,Bool.and_self,cond_true] at a;exact a.1
  cases p:(cY off h.2.1&&df h.2.1 (off+n)) with
  |true=>rw[p] at a;exact Af a.2 e c i hm m o
  |false=>rw[p] at a;exact Af a e c i hm m o
theorem VH{C:dQ}(kT:dZ K.P C.cf){H:Nat->Option E}{a v:V}{I:List cq}(hH: ∀k e,H k=aa e->s.H k=aa e)
  (B:s.get x=a) (hy:s.get y=v) (h:FC C t H a v I=aa (e,mh,M)) (F:cr mh):dY K ⟨aj,.store t x y,ty,pos,af,g⟩ s (e.app s):=by
 unfold FC at h;split at h
 ·rename_i i id gen sz k G r I N;obtain⟨ajv,T,_⟩:=kT _ _ N;split at h
  ·rename_i U m L p ew hh;split at h
   ·rename_i l o iK;cases h;simp only[b5] at o;obtain⟨rfl,e4,b3,hq⟩:=F;obtain⟨nB,Q⟩:=cr.app hq;obtain⟨di,cI⟩:=y0 iK nB;refine Ux x y _ _ _ U m p r v ew B hy o.1 o.2.1 (hH _ _ hh) e4 T (c4 o.2.2.1) (by simpa[Nat.blt_eq] using o.2.2.2.2) b3 (eG o.2.2.2.1) (Ae Q) λj hj=>?_;have hj':=bo (show j<(l.map (·.2)).length by simp[di];exact hj)
    grind
   cases h
  cases h
 ·rename_i i id gen sz k G q n r I N;obtain⟨ajv,T,_⟩:=kT _ _ N;split at h
  ·rename_i U m L p ew hh;split at h
   ·rename_i l o iK;cases h;simp only[b5] at o;obtain⟨rfl,e4,b3,hq⟩:=F;obtain⟨nB,Q⟩:=cr.app hq;obtain⟨Q,vb⟩:=cr.app Q;obtain⟨vb,Re⟩:=cr.app vb;obtain⟨di,cI⟩:=y0 iK nB;have R:=c4 o.2.2.1;have W: ∀x,x∈(ew.drop q.toNat).take n->x∈ew:=λx B=>jl (hv B);have A: ∀x,x∈ew->x∈ew.take q.toNat\/x∈(ew.drop q.toNat).take n\/x∈(ew.drop q.toNat).drop n:=λx B=>by
     rw[<-nJ q.toNat ew,eS] at B;rcases B with h|h
     ·exact .inl h
     rw[<-nJ n (ew.drop q.toNat),eS] at h
     grind
    refine JB x y _ _ _ U m p r v ew B hy o.1 o.2.1 (hH _ _ hh) e4 T R (by simpa[Nat.blt_eq] using o.2.2.2.2) b3 (eG o.2.2.2.1) (λf u D hm=>?_) (λf u Z hm=>?_) λj hj=>?_
    ·rcases eS.1 hm with c|c
     ·exact⟨D,hv c,λz=>bz z.1 (Af vb f u D c z.2.1 z.2.2),λ_=>rfl⟩
     rcases eS.1 c with c|c
     ·obtain⟨Z,aS,a2,a3⟩:=EM c;refine⟨Z,W _ aS,λz=>?_,λz=>a3 λb=>z ⟨Ae Q f u Z aS b.1 O,b.1,O⟩⟩
      grind
     exact⟨D,jl (jl c),λz=>bz z.1 (Af Re f u D c z.2.1 z.2.2),λ_=>rfl⟩
    ·rcases A _ hm with c|c|c
     ·exact⟨Z,eS.2 (.inl c)⟩
     ·obtain⟨v1,h2⟩:=Fe (off:=G) (vs:=v.cs) c
      grind
     exact⟨Z,eS.2 (.inr (eS.2 (.inr c)))⟩
    have hj':=bo (show j<(l.map (·.2)).length by simp[di];exact hj)
    grind
   cases h
  cases h
 cases h
theorem dY.ahQ{K:Ctx}{s c:S}(h:dY K o s b)(p:b.le K c):dY K o s c:=
 λβ a w next Q q r=>h β a w next Q q λi m n k=>let ⟨e,l⟩:=p i m n k;r e m n l
theorem LK{z:List T}: ∀{l:List (Nat×Nat)} {j m:Nat},wK z l=ab->tQ l j=aa m->z[j]? =aa .fF
 |p::l,j,m,h,a=>by
  simp only[wK,b5] at h;simp only[tQ] at a;cases c:b4 p.1 j with
  |true=>
   rw[<-c4 c];have e:=h.1;split at e
   ·assumption
   cases e
  |false=>rw[c] at a;exact LK h.2 a
theorem Xn{K:Ctx}{s:S}(k:Nat){L n:Nat}{z:List T}(e:List dt)(m:Nat)(B:s.H k=aa (.arr t gen L (dq n z)))(r:(aR e m).ty=t)(F:(aR e m).size=L)
  (D:wK z (aR e m).bk=ab):s.le K {s with H:=bc s.H k (aa (.bd e m gen (dq n (z.map jh)) []))}:=by
 intro β a w h;refine⟨_,h.drop k (.bd e m gen (dq n (z.map jh)) []) (by rw[B];simp) ?_⟩;have l:=(h.heap k _ B).2;subst r;subst F;refine⟨l.1,?_⟩;have o: ∀b,own K (β.drop k) (bc s.H k (aa (.bd e m gen (dq n (z.map jh)) []))) b->own K β s.H b:=by
  rintro b (I|⟨id,r,F⟩)
  ·exact .inl I
  refine .inr ⟨id,λG=>?_,nz F⟩;by_cases Z:id=k
  ·subst Z;rw[B] at G;cases G
  rw[cb _ _ _ _ Z] at r;exact r G
 rcases l.2 with ⟨aS,a2⟩|⟨b,M,aS,a2,a3,a4,a5⟩
 ·have:n=0:=by simpa using a2
  subst this;exact .inl ⟨aS,rfl,λc p=>p.1 rfl⟩
 refine .inr ⟨b,M,λ_ _ _=>False,aS,a2,by simpa using a3,λQ N=>?_,λi j Q x u A f P=>Cell.of ?_,λ_ _ _ h=>h.elim,λ_ _ _ _ _ h=>h.elim,λc=>⟨λp=>bz rfl p.1,λ⟨_,_,p⟩=>p.elim⟩⟩
 ·obtain⟨U,rfl⟩:=tc.1 N
  grind
 rw[te] at A;split at A
 ·rename_i R;cases A;rw[ek] at f;obtain⟨y,v,rfl⟩:=Option.map_eq_some_iff.1 f;have q:=(a5 i j z y u (by rw[te,aX R]) v P).mono (Ext.refl _ _) λb _=>o b;cases W:(aR e m).eA j with
  |none=>exact .kj _ _ _ q.x3 (λ_ h=>h)
  |some V=>
   have:=LK D W;rw[v] at this;cases this;cases q;exact .nil _ _ λ_ h=>h
 cases A
theorem XT{C:dQ}(kT:dZ K.P C.cf){v w:V}{I:List cq}(Q: ∀k,u k=ak->s.u k=ak)(cM:ki K.nt d=ab)
  (hx:s.get x=v) (hy:s.get y=w) (h:Gl C d t u v w I=aa (e,mh,M)) (W:cr mh):dY K ⟨d,.makeSlice t x y,ty,pos,af,g⟩ s (e.app s):=by
 unfold Gl at h;split at h
 ·cases h
 rename_i i l;split at h
 ·rename_i o N;have gF:K.P.underlying t=aa (.slice o):=(kT _ _ l).iU.2.2.2 o N;split at h
  ·cases h
  rename_i j Z;obtain⟨qW,he,_⟩:=kT _ _ Z;split at h
  ·rename_i n m k R I p r;split at h
   ·rename_i T f U z;cases h;obtain⟨hnm,A,B,_⟩:=W;obtain⟨qK,afy,rfl⟩:=oJ A;have F:m=n:=O
    subst F;simp only[b5] at z;have c:=eG z.2;have D:m.toNat*j.bytes<=1000000000*200000:=oQ O c;have bN:=lO B;have Z:=OI (K:=K) (s:=s) (d:=d) (ty:=ty) (pos:=pos) (af:=af) (g:=g) k (Q _ T) x y o m.toNat p (hb cM) gF he (by rw[hx,<-bN]) (by rw[hy,<-bN]) (oG r) f U z.1 O O;refine Z.IY λβ a w b3=>?_;have hk:((s.new k (.arr o 1 j.size (dq m.toNat p))).put d (.bn k 1 j.size 0 m.toNat)).H k=aa (.arr o 1 j.size (dq m.toNat p)):=by
     cases d<;>exact cc _ _ _
    have xw:=b3.Rf k hk λX=>aa9;rw[rs,yE]
    have: ∀G L:E,({((s.new k G).put d (.bn k 1 j.size 0 m.toNat)) with H:=bc ((s.new k G).put d (.bn k 1 j.size 0 m.toNat)).H k (aa L)}:S)=(s.new k L).put d (.bn k 1 j.size 0 m.toNat):=by
     intro G L;have Q: ∀a b:Option E,bc (bc s.H k a) k b=bc s.H k b:=by
      intro a b;funext i;by_cases l:i=k
      ·subst l;rw[cc,cc]
      rw[cb _ _ _ _ l,cb _ _ _ _ l,cb _ _ _ _ l]
     cases d<;>simp only[S.put,S.new,Q]
    grind
   cases h
  ·rename_i n m k ov Γ q R I p r;split at h
   ·rename_i T f U z;cases h;obtain⟨afY,lj,hnm,A,B,_⟩:=W;obtain⟨qK,afy,rfl⟩:=oJ A;have F:m=n:=O
    subst F;simp only[b5] at f z;have c:=eG z.2;have D:m.toNat*j.bytes<=1000000000*200000:=oQ O c;have bN:=lO B;have Z:=OI (K:=K) (s:=s) (d:=d) (ty:=ty) (pos:=pos) (af:=af) (g:=g) k (Q _ T) x y o m.toNat p (hb cM) gF he (by rw[hx,<-bN]) (by rw[hy,<-bN]) (oG r) f.1 U z.1 O O;have hk:((s.new k (.arr o 1 j.size (dq m.toNat p))).put d (.bn k 1 j.size 0 m.toNat)).H k=aa (.arr o 1 j.size (dq m.toNat p)):=by
     cases d<;>exact cc _ _ _
    have cC:=Xn (K:=K) k Γ q hk afY lj f.2;rw[rs,yE]
    have: ∀G L:E,({((s.new k G).put d (.bn k 1 j.size 0 m.toNat)) with H:=bc ((s.new k G).put d (.bn k 1 j.size 0 m.toNat)).H k (aa L)}:S)=(s.new k L).put d (.bn k 1 j.size 0 m.toNat):=by
     intro G L;have Q: ∀a b:Option E,bc (bc s.H k a) k b=bc s.H k b:=by
      intro a b;funext i;by_cases l:i=k
      ·subst l;rw[cc,cc]
      rw[cb _ _ _ _ l,cb _ _ _ _ l,cb _ _ _ _ l]
     cases d<;>simp only[S.put,S.new,Q]
    rw[this] at cC;exact Z.ahQ cC
   cases h
  cases h
 cases h
theorem VJ{C:dQ}(F:dZ K.P C.cf)(_hn0:C.dL=K.dL){G:TypeId}{H:Nat->Option E}{v w:V}{o:List cq}{Q:List du}(u: ∀k e,H k=aa e->s.H k=aa e)(D:ki K.nt d=ab)
  (I:s.get x=v) (M:s.get y=w) (h:FE C d t G H v w L=aa (e,Q,o)) (p:cr Q):dY K ⟨d,.call {callee:= .builtin .append,args:= #[x,y],argTypes:= #[t,G]},ty,pos,af,g⟩ s (e.app s):=by
 unfold FE at h;split at h
 ·cases h
 rename_i i N;split at h
 ·rename_i W q;have T:K.P.underlying t=aa (.slice W):=(F _ _ N).iU.2.2.2 W q;split at h
  ·cases h
  rename_i j Z;obtain⟨qW,U,_⟩:=F _ _ Z;split at h
  ·rename_i k gen b off len a R L hw;split at h
   ·rename_i e' l r c hh;split at h
    ·rename_i h1 n z;cases h;obtain⟨rfl,rfl,rfl,rfl,m,A,B,_⟩:=p;obtain⟨a7,rfl⟩:=vU m;simp only[b5] at n z;have e1:=c4 z.1;have e2:=c4 z.2;have mu:=c4 h1;subst e1;subst e2;subst mu;have f:(c.length+a.length)*j.bytes<=1000000000*140000:=oQ a7 (eG n.2.2);have Z:=Zq (K:=K) (s:=s) (d:=d) (ty:=ty) (pos:=pos) (af:=af) (g:=g) (gen:=l) (size:=j.size) k x y e' c a (hb D) I (by rw[M,<-hw];exact tG w) (u _ _ hh) T U n.1 n.2.1 A B O O;rw[dp]
     have: ∀v e,cX.app ⟨fx d v,[(k,aa e)],[]⟩ s=({s with H:=bc s.H k (aa e)}:S).put d v:=by intro v e;cases d<;>rfl
     grind
    cases h
   cases h
  cases h
 cases h
theorem Vh{C:dQ}(kT:dZ K.P C.cf){l4:TypeId}{H:Nat->Option E}{v w:V}{Z b:List cq}(Q: ∀k e,H k=aa e->s.H k=aa e)(f:ki K.nt d=ab)
  (u:s.get x=v) (D:s.get y=w) (h:ER C d t l4 H v w Z=aa (e,mh,b)) (p:cr mh):dY K ⟨d,.call {callee:= .builtin .append,args:= #[x,y],argTypes:= #[t,l4]},ty,pos,af,g⟩ s (e.app s):=by
 unfold ER at h;split at h
 ·cases h
 rename_i i aP;split at h
 ·rename_i I M;have N:K.P.underlying t=aa (.slice I):=(kT _ _ aP).iU.2.2.2 I M;split at h
  ·cases h
  rename_i j T;obtain⟨qW,U,_⟩:=kT _ _ T;split at h
  ·rename_i k gen z off len dW g3 z3 ajM n3 R Z;split at h
   ·rename_i Γ m c a ah1 m3 aeA dL l afR A B;split at h
    ·rename_i n o W;cases h;obtain⟨rfl,rfl,rfl,rfl,uy,nr,rfl,rfl,h3,F,HM,xw,_⟩:=p;obtain⟨a7,rfl⟩:=vU F;simp only[b5] at n o W;have G:=c4 n.1;have L:=c4 n.2;have mu:=c4 W.1;subst G;subst L;subst mu;have hmul:(a.length+(dL::l).length)*j.bytes<=1000000000*140000:=oQ a7 (eG o.2.2);have T:=X' (K:=K) (s:=s) (d:=d) (ty:=ty) (pos:=pos) (af:=af) (g:=g) (gen:=c) (size:=j.size) k dW aeA (l.length+1) x y I Γ ah1 m m3 a (dL::l) afR (hb f) u D (Q _ _ A) (Q _ _ B) h3 rfl N U o.1 uy nr HM xw (Nat.succ_pos _) W.2.1 W.2.2 O O;rw[dp]
     have: ∀v e,cX.app ⟨fx d v,[(k,aa e)],[]⟩ s=({s with H:=bc s.H k (aa e)}:S).put d v:=by intro v e;cases d<;>rfl
     grind
    cases h
   ·rename_i e' c q a Hi A B;split at h
    ·rename_i n o;cases h;obtain⟨rfl,rfl,rfl,rfl,r,hl1,sk,rfl,_⟩:=p;simp only[b5] at n o;have G:=c4 n.1;have L:=c4 n.2;have xi:=c4 o.1;have pn:=c4 o.2.1;have hp:0<j.size:=by simpa[Nat.blt_eq] using o.2.2
     subst G;subst L;subst xi;subst pn;subst r;have T:=Xb (K:=K) (s:=s) (d:=d) (ty:=ty) (pos:=pos) (af:=af) (g:=g) _ _ _ _ x y _ _ (hb f) u D (Q _ _ A) N U hp hl1 sk
     have: ∀v e,cX.app ⟨fx d v,[(dW,aa e)],[]⟩ s=({s with H:=bc s.H dW (aa e)}:S).put d v:=by intro v e;cases d<;>rfl
     grind
    cases h
   cases h
  ·rename_i k gen z off len Z;split at h
   ·rename_i e' c q a A;split at h
    ·rename_i n o;cases h;obtain⟨rfl,rfl,r,_⟩:=p;simp only[b5] at n;have G:=c4 n.1;have L:=c4 o;have hp:0<j.size:=by simpa[Nat.blt_eq] using n.2
     subst G;subst L;subst r;rw[oK];exact VX (K:=K) (s:=s) (d:=d) (ty:=ty) (pos:=pos) (af:=af) (g:=g) _ _ x y _ _ _ (hb f) u (dC.of_eq D) (Q _ _ A) N U hp
    cases h
   cases h
  cases h
 cases h
theorem acB{v:V}{x:T}(h:yn v=aa x):v= .t x:=by
 cases v<;>simp[yn] at h
 grind
theorem Ki{d:dt}: ∀{j:Nat} {a:List V} {r:List T} {c:List (Nat×Nat×V)},vY d j a=aa (r,c)->r.length=a.length/\
  (∀i b v,(i,b,v)∈c->i=0/\ ∃k,b=j+k/\a[k]? =aa v)/\(∀(k:Nat) x,r[k]? =aa x->(∃v,(0,j+k,v)∈c)\/(d.eA (j+k)=aj/\a[k]? =aa (.t x)))
 |j,[],r,c,h=>by cases h;exact⟨rfl,λ_ _ _ h=>bz h List.not_mem_nil,λk x h=>by simp at h⟩
 |j,v::a,r,c,h=>by
  simp only[vY] at h;split at h
  ·cases h
  rename_i L n B;obtain⟨aS,a2,a3⟩:=Ki B;have y: ∀i b dO,(i,b,dO)∈n->i=0/\ ∃k,b=j+k/\(v::a)[k]? =aa dO:=λi b dO hm=>by
   obtain⟨F,k,Q,G⟩:=a2 i b dO hm;exact⟨F,k+1,O,by simpa using G⟩
  split at h
  ·rename_i R z;cases A:v.one with
   |false=>rw[A] at h;cases h
   |true=>
    rw[A] at h;cases h;refine⟨by simp[aS],λi b dO hm=>?_,λk x l=>?_⟩
    ·rcases ef.1 hm with e|hm
     ·cases e;exact⟨rfl,0,rfl,rfl⟩
     exact y i b dO hm
    cases k with
    |zero=>exact .inl ⟨v,en⟩
    |succ k=>
     have:=a3 k x (by simpa using l);rw[show j+1+k=j+(k+1) by omega] at this;rcases this with ⟨dO,o⟩|⟨m,p⟩
     ·exact .inl ⟨dO,ec _ o⟩
     exact .inr ⟨m,by simpa using p⟩
  rename_i z;split at h
  ·rename_i W q;cases h;refine⟨by simp[aS],y,λk x l=>?_⟩;cases k with
   |zero=>simp at l;subst l;exact .inr ⟨z,by simp[acB q]⟩
   |succ k=>
    have:=a3 k x (by simpa using l);rw[show j+1+k=j+(k+1) by omega] at this;rcases this with m|⟨m,p⟩
    ·exact .inl m
    exact .inr ⟨m,by simpa using p⟩
  cases h
theorem acS{u:TypeDesc}{q:Nat}(k:Nat)(hk:s.u k=ak)(o:Array (Nat×Operand))(e:TypeId)(n N:List V)(A:List dt)(m:Nat)(r:List T)(M:List (Nat×Nat×V))(cM: ∀i,d=aa i->df i K.nt=ab)(B:fG ((o.toList.map (·.2)).map s.get) n)
  (hu:K.P.underlying t=aa (.slice e)) (he:cj K.P e u z size q) (F:b4 o.toList.length n.length=ab) (hp:df 0 size=ab) (G:cY (1*size) 16777216=ab)
  (iK:k5 (λi=>aa (i*size,size)) (dq (1*size) .c9) ((o.toList.map (·.1)).zip n)=aa N) (U:vY (aR A m) 0 N=aa (r,M)) (hcl:N.length=size) (uy:(aR A m).size=size) (nr:(aR A m).ty=e):
  dY K ⟨d,.buildSlice t 1 o,ty,pos,af,g⟩ s ((s.new k (.bd A m 1 [r] M)).put d (.bn k 1 size 0 1)):=by
 have afH:0<size:=by simpa[Nat.blt_eq] using hp
 obtain⟨x',ajo,ajp⟩:=Ki U;intro β a w next Q b3 hkk
 have Hu:dw β w (own K β s.H) n ((o.toList.map (·.2)).map a.eval):=(b3.oi _).le B;have hz2:=vk a.eval o.toList;obtain⟨l,h1,h2⟩:=vT (β:=β) (w:=w) (X:=own K β s.H) (λi=>aa (i*size,size)) (o.toList.map (·.1)) n _ (dq (1*size) .c9)
  ((Array.range (1*size)).map ((if 1*size=0 then #[] else z.cells)[· %(if 1*size=0 then #[] else z.cells).size]!)) _ (Ad _ _ _ _ _ aW) Hu (by simpa using c4 F) iK
 have L:(execOp a.eval ⟨d,.buildSlice t 1 o,ty,pos,af,g⟩).run K.P w= .ok (.value (.slice (aa ⟨w.heap.size,0,aj⟩) 1 1)) (w.alloc (.cells l e)):=by
  have R:(o.toList.map λx=>match x with|(i,x)=>(i,a.eval x))=(o.toList.map (·.1)).zip ((o.toList.map (·.2)).map a.eval):=by rw[<-hz2]
  have a7: ¬(1*size>2^24):=by have:=eG G;omega
  have h0: ¬1*size=0:=O
  simp only[execOp,Instr.buildSlice,ff,run_underlying hu,fb,he.run_sizeOf,a7,if_false,Array.toList_map];simp only[h0,if_false] at h1;simp only[h0,if_false,Sem.run_pure,ff,he.sR,fb];rw[R,h1];rfl
 unfold Oper.wp;rw[L];have p:l.size=size:=by
  have h:=h2.1
  grind
 have W:=b3.Ii k 1 hk l e (.bd A m 1 [r] M) (λβ' h8 w' hw so Z lT=>⟨cV _,Or.inr ⟨w.heap.size,l,λ_ _ _=>False,so,by subst hw;rw[nr];exact lf _ _,by rw[p,uy];simp,λrow b=>by rw[nL.1 b,x',hcl,uy],λi j row x y aS a2 a3=>by
  have aP:=(bX.1 aS).1;have afd:i=0:=by simpa using aP
  subst afd;simp at aS;subst aS;rw[iq,eg] at a3;refine⟨λv B=>⟨?_,λ_ h=>h⟩,λcG=>?_⟩
  ·obtain⟨_,ct,f,R⟩:=ajo _ _ _ B;rw[eg] at f;subst f;exact Z _ _ (h2.2 _ _ y R (by simpa using a3))
  rcases ajp j x a2 with ⟨v,B⟩|⟨f,R⟩
  ·rw[eg] at B;exact bz B (cG v)
  rw[eg] at f;rw[f];have h6:=Z _ _ (h2.2 _ _ y R (by simpa using a3));cases h6 with|t _ _ h=>exact .kj _ _ _ h λ_ h=>h,λ_ _ _ h=>h.elim,λ_ _ _ _ _ h=>h.elim,λc=>⟨λh=>bz h (lT c),λ⟨_,_,h⟩=>h.elim⟩⟩⟩)
 have D:(w.alloc (.cells l e)).heap.size=w.heap.size+1:=World.size_alloc ..;have iL:(w.alloc (.cells l e)).shape? w.heap.size=aa (e,l.size):=by unfold World.shape?;rw[lf]
 have I:bp (β.put k (aa (aa w.heap.size,1))) (w.alloc (.cells l e)) (own K (β.put k (aa (aa w.heap.size,1))) (s.new k (.bd A m 1 [r] M)).H) (.bn k 1 size 0 1)
   (.slice (aa ⟨w.heap.size,0*size,aj⟩) 1 1):= .bn k 1 size 0 1 1 w.heap.size l.size e (cV _) (cc _ _ _) (D▸oO _) iL (by rw[p];omega) (cV _) (by unfold maxLen;omega)
 rw[iq] at I;exact hkk _ _ _ (W.put d cM I)
theorem N2{n j:Nat}{v:V}: ∀{a:List V} {i:Nat},(n,j,v)∈qn i a->j=0/\ ∃k,n=i+k/\a[k]? =aa v
 |x::a,i,h=>by
  simp only[qn] at h;rcases ef.1 h with h|h
  ·cases h;exact⟨rfl,0,rfl,rfl⟩
  obtain⟨e,k,l,c⟩:=N2 h;exact⟨e,k+1,O,by simpa using c⟩
theorem N1{v:V}: ∀{vs:List V} {i k:Nat},vs[k]? =aa v->(i+k,0,v)∈qn i vs
 |x::vs,i,0,h=>by
  simp at h;subst h;exact en
 |x::vs,i,k+1,h=>by have:=N1 (i:=i+1) (k:=k) (vs:=vs) (by simpa using h);rw[show i+1+k=i+(k+1) by omega] at this;exact ec _ this
theorem acT{u:TypeDesc}{l B:Nat}(k:Nat)(hk:s.u k=ak)(n:Nat)(q:Array (Nat×Operand))(e:TypeId)(p F:List V)(G:List dt)(m:Nat)(cM: ∀i,d=aa i->df i K.nt=ab)(M:fG ((q.toList.map (·.2)).map s.get) p)
  (hu:K.P.underlying t=aa (.slice e)) (he:cj K.P e u z l B) (L:b4 q.toList.length p.length=ab) (cG:df 0 n=ab) (N:l=1) (R:cY (n*l) 16777216=ab)
  (iK:k5 (λi=>aa (i*l,l)) (dq (n*l) .c9) ((q.toList.map (·.1)).zip p)=aa F) (hcl:F.length=n) (T:(aR G m).size=1) (nr:(aR G m).ty=e):
  dY K ⟨d,.buildSlice t n q,ty,pos,af,g⟩ s ((s.new k (.bd G m 1 (dq n [.bD []]) (qn 0 F))).put d (.bn k 1 1 0 n)):=by
 subst N;have W:0<n:=by simpa[Nat.blt_eq] using cG
 intro β a w next Q b3 U
 have Hu:dw β w (own K β s.H) p ((q.toList.map (·.2)).map a.eval):=(b3.oi _).le M;have hz2:=vk a.eval q.toList;obtain⟨o,h1,h2⟩:=vT (β:=β) (w:=w) (X:=own K β s.H) (λi=>aa (i*1,1)) (q.toList.map (·.1)) p _ (dq (n*1) .c9)
  ((Array.range (n*1)).map ((if n*1=0 then #[] else z.cells)[· %(if n*1=0 then #[] else z.cells).size]!)) _ (Ad _ _ _ _ _ aW) Hu (by simpa using c4 L) iK
 have aim:=eG R;have Z:(execOp a.eval ⟨d,.buildSlice t n q,ty,pos,af,g⟩).run K.P w= .ok (.value (.slice (aa ⟨w.heap.size,0,aj⟩) n n)) (w.alloc (.cells o e)):=by
  have e2:(q.toList.map λx=>match x with|(i,x)=>(i,a.eval x))=(q.toList.map (·.1)).zip ((q.toList.map (·.2)).map a.eval):=by rw[<-hz2]
  have a7: ¬(n*1>2^24):=O
  have h0: ¬n*1=0:=O
  simp only[execOp,Instr.buildSlice,ff,run_underlying hu,fb,he.run_sizeOf,a7,if_false,Array.toList_map];simp only[h0,if_false] at h1;simp only[h0,if_false,Sem.run_pure,ff,he.sR,fb];rw[e2,h1];rfl
 unfold Oper.wp;rw[Z];have r:o.size=n:=by
  have h:=h2.1;rw[p9] at h;omega
 have b:=b3.Ii k 1 hk o e (.bd G m 1 (dq n [.bD []]) (qn 0 F)) (λβ' h8 w' hw W py lT=>⟨cV _,Or.inr ⟨w.heap.size,o,λ_ _ _=>False,W,by subst hw;rw[nr];exact lf _ _,by rw[r,T];simp,λf A=>by rw[(tc.1 A).2,T];rfl,λi j f x y aS a2 a3=>by
  have aP:=(bX.1 aS).1;rw[yE] at aP;have A:f=[.bD []]:=(tc.1 (bJ aS)).2;subst A;have hj0:j=0:=by
   have:=(bX.1 a2).1;simpa using this
  subst hj0;rw[T,Nat.mul_one,rl] at a3;refine⟨λv M=>⟨?_,λ_ h=>h⟩,λsp=>?_⟩
  ·obtain⟨_,ct,e1,e2⟩:=N2 M;rw[eg] at e1;subst e1;exact py _ _ (h2.2 _ _ y e2 (by simpa using a3))
  have bN:=bo (O:i<F.length)
  have:=N1 (i:=0) bN;rw[eg] at this;exact bz this (sp _),λ_ _ _ h=>h.elim,λ_ _ _ _ _ h=>h.elim,λc=>⟨λh=>bz h (lT c),λ⟨_,_,h⟩=>h.elim⟩⟩⟩)
 have D:(w.alloc (.cells o e)).heap.size=w.heap.size+1:=World.size_alloc ..;have iL:(w.alloc (.cells o e)).shape? w.heap.size=aa (e,o.size):=by unfold World.shape?;rw[lf]
 have I:bp (β.put k (aa (aa w.heap.size,1))) (w.alloc (.cells o e)) (own K (β.put k (aa (aa w.heap.size,1))) (s.new k (.bd G m 1 (dq n [.bD []]) (qn 0 F))).H) (.bn k 1 1 0 n)
   (.slice (aa ⟨w.heap.size,0*1,aj⟩) n n):= .bn k 1 1 0 n n w.heap.size o.size e (cV _) (cc _ _ _) (D▸oO _) iL (by rw[r];omega) (cV _) (by unfold maxLen;omega)
 rw[iq] at I;exact U _ _ _ (b.put d cM I)
theorem adW{u:TypeDesc}{F:Nat}(k:Nat)(hk:s.u k=ak)(n:Nat)(p:Array (Nat×Operand))(e:TypeId)(o:List V)(c:List (List T))(cM: ∀i,d=aa i->df i K.nt=ab)(bR:fG ((p.toList.map (·.2)).map s.get) o)
  (hu:K.P.underlying t=aa (.slice e)) (he:cj K.P e u z size F) (R:b4 p.toList.length o.length=ab)
  (cG:c.length=n) (hp:df 0 size=ab) (G: ∀l,l∈c->l.length=size) (B:cY (n*size) 16777216=ab)
  (iK:k5 (λi=>aa (i*size,size)) (dq (n*size) .c9) ((p.toList.map (·.1)).zip o)=aa (c.flatten.map .t)):
  dY K ⟨d,.buildSlice t n p,ty,pos,af,g⟩ s ((s.new k (.arr e 1 size c)).put d (.bn k 1 size 0 c.length)):=by
 subst cG;have afH:0<size:=by simpa[Nat.blt_eq] using hp
 intro β a w next Q b3 N
 have U:dw β w (own K β s.H) o ((p.toList.map (·.2)).map a.eval):=(b3.oi _).le bR;have hz2:=vk a.eval p.toList;obtain⟨m,A,L⟩:=vT (β:=β) (w:=w) (X:=own K β s.H) (λi=>aa (i*size,size)) (p.toList.map (·.1)) o _ (dq (c.length*size) .c9)
  ((Array.range (c.length*size)).map ((if c.length*size=0 then #[] else z.cells)[· %(if c.length*size=0 then #[] else z.cells).size]!)) _ (Ad _ _ _ _ _ aW) U (by simpa using c4 R) iK
 have W:(execOp a.eval ⟨d,.buildSlice t c.length p,ty,pos,af,g⟩).run K.P w= .ok (.value (.slice (aa ⟨w.heap.size,0,aj⟩) c.length c.length)) (w.alloc (.cells m e)):=by
  have e2:(p.toList.map λx=>match x with|(i,x)=>(i,a.eval x))=(p.toList.map (·.1)).zip ((p.toList.map (·.2)).map a.eval):=by rw[<-hz2]
  have a7: ¬(c.length*size>2^24):=by have:=eG B;omega
  simp only[execOp,Instr.buildSlice,ff,run_underlying hu,fb,he.run_sizeOf,a7,if_false,Array.toList_map];by_cases M:c.length*size=0
  ·simp only[M,if_true] at A;simp only[M,if_true,Sem.run_pure,ff,fb];rw[e2,A];rfl
  simp only[M,if_false] at A;simp only[M,if_false,Sem.run_pure,ff,he.sR,fb];rw[e2,A];rfl
 unfold Oper.wp;rw[W];have q:m.size=c.flatten.length:=by
  have h:=L.1
  grind
 have Z:c.flatten.length=c.length*size:=by
  rw[List.length_flatten]
  have:c.map List.length=dq c.length size:=List.eq_replicate_iff.2 ⟨aW,λb a7=>by obtain⟨r,b3,rfl⟩:=eo.1 a7;exact G r b3⟩;rw[this];simp
 have f: ∀(c:List (List T)),(∀l,l∈c->l.length=size)-> ∀(i j:Nat) (l:List T) (x:T),c[i]? =aa l->l[j]? =aa x->c.flatten[i*size+j]? =aa x:=by
  intro c;induction c with
  |nil=>intro _ i j l x h _;simp at h
  |cons r c my=>
   intro hs i j l x A L;have b3:=hs r aW;rw[List.flatten_cons];cases i with
   |zero=>
    simp at A;subst A
    have:=(bX.1 L).1;rw[iq,eg,iV this];exact L
   |succ i=>
    simp at A;rw[hT (by rw[b3,fc];omega)];rw[show(i+1)*size+j-r.length=i*size+j by rw[b3,fc];omega];exact my (λl h=>hs l (by simp[h])) i j l x A L
 have v:=b3.new k 1 hk m e (.arr e 1 size c) (λβ' h8 w' hw so py=>⟨cV _,Or.inr ⟨w.heap.size,m,so,by subst hw;exact lf _ _,by rw[q,Z];exact cV _,G,λi j l x y aS a2 a3=>by
  have h5:=f c G i j l x aS a2;have h6:=L.2 (i*size+j) (.t x) y (by rw[ek,h5];rfl) (by simpa using a3);have oj:=py _ _ h6;cases oj with|t _ _ h=>exact h⟩⟩)
 have D:(w.alloc (.cells m e)).heap.size=w.heap.size+1:=World.size_alloc ..;have iL:(w.alloc (.cells m e)).shape? w.heap.size=aa (e,m.size):=by unfold World.shape?;rw[lf]
 have I:bp (β.put k (aa (aa w.heap.size,1))) (w.alloc (.cells m e)) (own K (β.put k (aa (aa w.heap.size,1))) (s.new k (.arr e 1 size c)).H) (.bn k 1 size 0 c.length)
   (.slice (aa ⟨w.heap.size,0*size,aj⟩) c.length c.length):= .bn k 1 size 0 c.length c.length w.heap.size m.size e (cV _) (cc _ _ _) (D▸oO _) iL (by rw[q,Z];simp) (cV _)
    (by
     have a7:=eG B;unfold maxLen
     have:c.length*1<=c.length*size:=Nat.mul_le_mul_left _ O;omega)
 rw[iq] at I;exact N _ _ _ (v.put d cM I)
theorem Z9{C:dQ}(f:dZ K.P C.cf){n:Nat}{o:Array (Nat×Operand)}{a:List V}{v Q:List cq}{D:List du}(I: ∀k,u k=ak->s.u k=ak)(F:ki K.nt d=ab)
  (R:a=(o.toList.map (·.2)).map s.get) (h:GP C d t n (o.toList.map (·.1)) u a v=aa (e,D,Q)) (W:cr D):dY K ⟨d,.buildSlice t n o,ty,pos,af,g⟩ s (e.app s):=by
 unfold GP at h;split at h
 ·cases h
 rename_i i M;split at h
 ·rename_i q Z;have G:K.P.underlying t=aa (.slice q):=(f _ _ M).iU.2.2.2 q Z;split at h
  ·cases h
  rename_i j N;obtain⟨qW,L,_⟩:=f _ _ N;split at h
  ·rename_i k v b;split at h
   ·rename_i p;cases h
    have:o= #[]:=by
     have:o.toList=[]:=by simpa using b
     grind
    subst this;rw[rs];exact Zp k (I _ p) q (hb F) G L
   cases h
  ·split at h
   ·cases h
   rename_i cs l;split at h
   ·cases h
   rename_i r m;split at h
   ·rename_i T p x y U;cases h;have c:=c4 p;obtain⟨z,A,B⟩:=Ax j.size _ r c;rw[rs];refine adW _ (I _ T) _ o q (hl a) _ (hb F) (by rw[R];exact mL _) G L (by rw[sI];simpa using x) z U A y (by rw[l,B,oG m])
   cases h
  ·split at h
   ·cases h
   rename_i cs l;split at h
   ·cases h
   rename_i r m;split at h
   ·rename_i p x y;cases h;have c:=c4 p;obtain⟨z,A,B⟩:=Ax j.size _ r c;rw[oK];rw[<-W.1];refine I' (vals:=hl a) (hb F) ?_ (Jx _ o q (hl a) _ G L ?_ (by simp[z]) A y (by rw[l,B,oG m]))
    ·rw[R];simp only[Op.operands];exact mL _
    rw[sI];simpa using x
   cases h
  ·split at h
   ·cases h
   rename_i cs l;split at h
   ·cases h
   rename_i r m;split at h
   ·rename_i p x y;cases h;have c:=c4 p;obtain⟨z,A,B⟩:=Ax j.size _ r c;rw[oK];refine I' (vals:=hl a) (hb F) ?_ (Jx _ o q (hl a) _ G L ?_ (by simp[z]) A y (by rw[l,B,oG m]))
    ·rw[R];simp only[Op.operands];exact mL _
    rw[sI];simpa using x
   cases h
  cases h
 cases h
theorem XU{C:dQ}(R:dZ K.P C.cf){n:Nat}{c:Array (Nat×Operand)}{a:List V}{p q:List cq}{l:List du}(W: ∀k,u k=ak->s.u k=ak)(Z:ki K.nt d=ab)
  (b:a=(c.toList.map (·.2)).map s.get) (h:Gm C d t n (c.toList.map (·.1)) u a p=aa (e,l,q)):dY K ⟨d,.buildSlice t n c,ty,pos,af,g⟩ s (e.app s):=by
 unfold Gm at h;split at h
 ·cases h
 rename_i i D;split at h
 ·rename_i z B;have f:K.P.underlying t=aa (.slice z):=(R _ _ D).iU.2.2.2 z B;split at h
  ·cases h
  rename_i j I;obtain⟨T,v,_⟩:=R _ _ I;split at h
  ·rename_i k A m p;split at h
   ·cases h
   rename_i cs x;split at h
   ·cases h
   rename_i r M F;split at h
   ·rename_i G y o L Q;cases h;simp only[b5] at y o;rw[rs];exact acS k (W _ G) c z (ud ((aR A m).eA 0) a) cs A m r M (hb Z) (by rw[b];exact abn _ _) f v (by rw[Vq];simpa using o.1) Q L x F (c4 y.1) (c4 y.2) (c4 o.2)
   cases h
  ·rename_i k A m p _;split at h
   ·cases h
   rename_i cs x;split at h
   ·rename_i G y o L Q;cases h;simp only[b5] at y o;have N:=c4 y.1;rw[rs];exact acT k (W _ G) _ c z (hl a) cs A m (hb Z) (by rw[b];exact mL _) f v (by rw[sI];simpa using o.1) Q N L x (c4 y.2.1) (c4 o.2.2) (c4 o.2.1)
   cases h
  cases h
 cases h
theorem XY{C:dQ}(z:C.P=K.P)(A:C.G=K.G){c:Operand}{l:Array Operand}{k:Array TypeId}{a:List V}(B:ki K.nt d=ab)
  (r:a=s.get c::l.toList.map s.get) (h:Gs C d a n=aa (e,m,i)) (x:cr m):dY K ⟨d,.call {callee:= .value c,args:=l,argTypes:=k},ty,pos,af,g⟩ s (e.app s):=by
 unfold Gs at h;split at h
 ·rename_i f o args;split at h
  ·split at h
   ·rename_i p;cases h;rw[oK];obtain⟨⟨y,q⟩,_⟩:=x;rw[z] at y q;rw[A] at q;simp only[List.cons.injEq] at r;exact Oz o _ _ y r.1.symm (hb B) (by rw[<-r.2];exact mL _) p q
   cases h
  ·cases h;rw[oK];obtain⟨p,⟨y,q⟩,_⟩:=x;rw[z] at y q;rw[A] at q;simp only[List.cons.injEq] at r;exact Oz o _ _ y r.1.symm (hb B) (by rw[<-r.2];exact mL _) p q
  cases h
 cases h
mutual
theorem Nf{U T:Map}{w a:World}{X Z:Nat->Prop}: ∀{v:V} {u:Value},rV v=ab->bp U w X v u->bp T a Z v u
 | .t (.int _ _),u,_,h=>by rw[dI h];exact .t _ _ (.int _ _)
 | .t (.bool _),u,_,h=>by rw[nu h];exact .t _ _ (.bool _)
 | .t (.str _),u,_,h=>by rw[hJ h];exact .t _ _ (.str _)
 | .agg cs,u,e,h=>by
  simp only[rV] at e;cases h with|agg _ l m h=>exact .agg _ l m (λi c u k n=>E' e i c u k (h i c u k n))
 | .bQ cs,u,e,h=>by
  simp only[rV] at e;cases h with|bQ _ l m h=>exact .bQ _ l m (λi c u k n=>E' e i c u k (h i c u k n))
 | .t (.bD _),_,e,_| .t .fF,_,e,_| .t .hP,_,e,_| .t .gJ,_,e,_| .t .nw,_,e,_| .t .err,_,e,_=>by simp[rV] at e
 | .ref _ _,_,e,_| .aQ _,_,e,_| .bn _ _ _ _ _,_,e,_| .cK _ _ _ _ _,_,e,_| .fn _ _,_,e,_| .c9,_,e,_=>by simp[rV] at e
theorem E'{U T:Map}{w a:World}{X Z:Nat->Prop}: ∀{cs:List V},tN cs=ab-> ∀(i:Nat) c u,cs[i]? =aa c->bp U w X c u->bp T a Z c u
 | [],_,_,_,_,h,_=>by simp at h
 |c::cs,e,0,l,u,k,h=>by
  simp only[tN,b5] at e;simp at k;subst k;exact Nf e.1 h
 |c::cs,e,i+1,l,u,k,h=>by simp only[tN,b5] at e;exact E' e.2 i l u (by simpa using k) h
end
theorem cN.read{β:Map}{w:World}{X Z:Nat->Prop}{a:List (List T)}{u:Value}(h:cN β w X k (.arr t gen size a))(B:bp β w X (.bn k gen size 0 a.length) u)
  (F: ∀b,Z b->X b) (G: ∀b,At β k b-> ¬Z b):dh w Z (.bD a) u:=by
 obtain⟨q,r⟩:=l3 h;rcases fY B r with ⟨y,b,n,L,rfl,m,Q,I,R,W,M⟩|⟨m,_,f,rfl⟩
 ·subst m;rcases h.2 with ⟨o,z⟩|⟨N,l,o,z,P,A,v⟩
  ·rw[r] at o;cases o
  rw[r] at o;cases o;rw[iq];refine .bD a b 0 size y (λi j=>l.getD (i*size+j) undef) Q (G b (.inl ⟨_,r⟩)) W A (λi j aP D=>?_) λi j p x aS a2=>?_
  ·have c:i*size+j<l.size:=by
    have:(i+1)*size<=a.length*size:=eL _ aP;rw[fc] at this;omega
   rw[eg];simp[World.cell?,z,c]
  have aP:=(bX.1 aS).1;have D:j<size:=by rw[<-A p (bJ aS)];exact(bX.1 a2).1
  have c:i*size+j<l.size:=by
   have:(i+1)*size<=a.length*size:=eL _ aP
   grind
  have:=v i j p x l[i*size+j] aS a2 (by simp[c]);have e:l.getD (i*size+j) undef=l[i*size+j]:=by simp[c]
  rw[e];exact this.mono (Ext.refl _ _) λb _=>F b
 have:a=[]:=List.length_eq_zero_iff.1 f;subst this;exact .gn _ _
theorem cN.ahx{β:Map}{w:World}{X L:Nat->Prop}{l:List dt}{m:Nat}{a:List (List T)}{u:Value}(h:cN β w X k (.bd l m gen a []))(f:bp β w X (.bn k gen (aR l m).size 0 a.length) u)
  (t: ∀b,L b->X b) (R: ∀b,At β k b-> ¬L b):dh w L (.bD a) u:=by
 obtain⟨q,F⟩:=tr h;rcases fY f F with ⟨Q,b,n,v,rfl,o,D,hs,I,M,hm⟩|⟨o,_,N,rfl⟩
 ·subst o;rcases h.2 with ⟨p,W⟩|⟨hF,r,B,p,W,h3,Z,P,_,_,U⟩
  ·rw[F] at p;cases p
  rw[F] at p;cases p;rw[iq];have y: ∀i j,i<a.length->j<(aR l m).size->i*(aR l m).size+j<r.size:=λi j aP G=>by
   have:(i+1)*(aR l m).size<=a.length*(aR l m).size:=eL _ aP
   grind
  refine .bD a b 0 (aR l m).size Q (λi j=>r.getD (i*(aR l m).size+j) undef) D (R b (.inl ⟨_,F⟩)) M Z (λi j aP G=>?_) λi j z x aS a2=>?_
  ·have:=y i j aP G;rw[eg];simp[World.cell?,W,this]
  have aP:=(bX.1 aS).1;have G:j<(aR l m).size:=by rw[<-Z z (bJ aS)];exact(bX.1 a2).1
  have A:=y i j aP G
  have:=(P i j z x r[i*(aR l m).size+j] aS a2 (by simp[A])).none;have e:r.getD (i*(aR l m).size+j) undef=r[i*(aR l m).size+j]:=by simp[A]
  rw[e];exact this.yl t λc V=>R c (.inr ((U c).2 ⟨i,j,V⟩))
 have:a=[]:=List.length_eq_zero_iff.1 N;subst this;exact .gn _ _
def tH:V->List Nat
 | .bn k _ _ _ _=>[k]
 |_=>[]
mutual
def qh(H:Nat->Option E):V->List Nat
 | .bn k _ _ _ _=>[k]
 | .ref id _=>id::(match H id with
  |some (.cells cs)=>cs.flatMap tH
  |_=>[])
 | .agg cs=>o2 H cs
 | .bQ cs=>o2 H cs
 | .fn _ cs=>o2 H cs
 | .t _| .aQ _| .cK _ _ _ _ _| .c9=>[]
def o2(H:Nat->Option E):List V->List Nat
 | []=>[]
 |v::a=>qh H v++o2 H a
end
section
variable {β:Map}{w:World}{X X1:Nat->Prop}{H:Nat->Option E}
theorem N9{v:V}{x:T}{r:List du}{u:Value}(q: ∀k e,H k=aa e->cN β w X k e)(l: ∀b,X1 b->X b)(z: ∀k,k∈tH v-> ∀b,At β k b-> ¬X1 b)
  (h:xf H v=aa (x,r)) (a:cr r) (n:bp β w X v u):dh w X1 x u:=by
 cases v with
 |bn k gen A B F=>
  simp only[xf] at h;split at h
  ·rename_i ty c o i p;cases h;obtain⟨rfl,rfl,rfl,rfl,_⟩:=a;exact(q k _ p).read n l (z k (by simp[tH]))
  ·rename_i G m c i p;cases h;obtain⟨rfl,rfl,rfl,rfl,_⟩:=a;exact(q k _ p).ahx n l (z k (by simp[tH]))
  cases h
 |t y=>
  simp only[xf] at h;cases h;cases n with|t _ _ h=>exact(h.mono (Ext.refl _ _) λb _=>l b).x3
 |agg=>cases h
 |bQ=>cases h
 |ref=>cases h
 |aQ=>cases h
 |cK=>cases h
 |fn=>cases h
 |c9=>cases h
theorem Ni(r: ∀k e,H k=aa e->cN β w X k e)(z: ∀b,X1 b->X b): ∀{a:List V} {fL:List T} {n:List du},(∀k,k∈a.flatMap tH-> ∀b,At β k b-> ¬X1 b)->Bg H a=aa (fL,n)->cr n->
  fL.length=a.length/\ ∀(l:Nat->Option Value),(∀(i:Nat) c u,a[i]? =aa c->l i=aa u->bp β w X c u)-> ∀(i:Nat) x u,fL[i]? =aa x->l i=aa u->dh w X1 x u
 | [],_,_,_,h,_=>by cases h;exact⟨rfl,λ_ _ i x u F=>by simp at F⟩
 |v::a,fL,n,A,h,o=>by
  simp only[Bg] at h;split at h
  ·rename_i x G I L Q R;cases h;obtain⟨W,Z⟩:=cr.app o;obtain⟨f,t⟩:=Ni r z (λk p=>A k (by rw[mR];exact k7 _ p)) R Z;refine⟨by simp[f],λl B i y u q m=>?_⟩;cases i with
   |zero=>
    simp at q;subst q;exact N9 r z (λk p=>A k (by rw[mR];exact l7 _ p)) Q W (B 0 v u rfl m)
   |succ i=>
    exact t (λj=>l (j+1)) (λj c u D m=>B (j+1) c u (by simpa using D) m) i y u (by simpa using q) m
  cases h
mutual
theorem acf(L: ∀k e,H k=aa e->cN β w X k e)(B: ∀b,X1 b->X b): ∀(v:V) {r:V} {y:List du} {u:Value},(∀k,k∈qh H v-> ∀b,At β k b-> ¬X1 b)->
  nc H v=aa (r,y)->cr y->bp β w X v u->bp hf w X1 r u
 | .bn k gen I l len,r,y,u,q,h,a,o=>by
  simp only[nc] at h;split at h
  ·rename_i x z A;cases h;exact .t _ _ (N9 L B (λj R=>q j (by simpa[qh,tH] using R)) A a o)
  cases h
 | .t x,r,y,u,q,h,a,o=>by
  simp only[nc] at h;cases h;cases o with|t _ _ h=>exact .t _ _ (h.mono (Ext.refl _ _) λb _=>B b).x3
 | .aQ cs,r,y,u,q,h,a,o=>by
  simp only[nc] at h;cases h;exact o.under (u:=gG) B (λ_ h=>by simp[gG] at h) rfl
 | .ref id l,r,y,u,q,h,a,o=>by
  simp only[nc] at h;split at h
  ·rename_i cs m;split at h
   ·rename_i fL z A;cases h;obtain⟨b,M,rfl⟩:=rA o;obtain⟨hF,n,ty,N,P,mu,xi⟩:=L id _ m;rw[M] at N;cases N;obtain⟨W,F⟩:=Ni L B (λk G=>q k (by simp only[qh,m];exact ec _ G)) A a;have Z:b<w.heap.size:=by
     have:=(kv.1 P).1;exact this
    refine .aQ (fL.drop l) b l (λj=>n.getD (l+j) undef) Z (q id (by simp[qh]) b (.inl ⟨_,M⟩)) (λj R=>?_) λj x D=>?_
    ·rw[im] at R
     have:l+j<n.size:=O
     simp[World.cell?,P,this]
    rw[il] at D;have R:=(bX.1 D).1
    have:l+j<n.size:=O
    have e:n.getD (l+j) undef=n[l+j]:=by simp[this]
    rw[e];exact F (λi=>n[i]?) (λi c u m p=>xi i c u m p) (l+j) x _ D (by simp[this])
   cases h
  cases h
 | .agg cs,r,y,u,q,h,a,o=>by
  simp only[nc] at h;split at h
  ·rename_i T z A;cases h;cases o with|agg _ n U Q=>
   obtain⟨W,F⟩:=wE L B cs (λk G=>q k (by simpa[qh] using G)) A a;exact .agg _ n O λi c u m p=>F (λi=>n[i]?) (λi c u m p=>Q i c u m p) i c u m p
  cases h
 | .bQ cs,r,y,u,q,h,a,o=>by
  simp only[nc] at h;split at h
  ·rename_i T z A;cases h;cases o with|bQ _ n U Q=>
   obtain⟨W,F⟩:=wE L B cs (λk G=>q k (by simpa[qh] using G)) A a;exact .bQ _ n O λi c u m p=>F (λi=>n[i]?) (λi c u m p=>Q i c u m p) i c u m p
  cases h
 | .fn f cs,r,y,u,q,h,a,o=>by
  simp only[nc] at h;split at h
  ·rename_i T z A;cases h;cases o with|fn _ _ n U Q=>
   obtain⟨W,F⟩:=wE L B cs (λk G=>q k (by simpa[qh] using G)) A a;exact .fn _ _ n O λi c u m p=>F (λi=>n[i]?) (λi c u m p=>Q i c u m p) i c u m p
  cases h
 | .cK _ _ _ _ _,_,_,_,_,h,_,_=>by simp only[nc] at h;cases h
 | .c9,_,_,_,_,h,_,_=>by simp only[nc] at h;cases h
theorem wE(z: ∀k e,H k=aa e->cN β w X k e)(A: ∀b,X1 b->X b): ∀(l:List V) {a:List V} {o:List du},(∀k,k∈o2 H l-> ∀b,At β k b-> ¬X1 b)->
  pd H l=aa (a,o)->cr o->a.length=l.length/\ ∀(m:Nat->Option Value),(∀(i:Nat) c u,l[i]? =aa c->m i=aa u->bp β w X c u)-> ∀(i:Nat) x u,a[i]? =aa x->m i=aa u->bp hf w X1 x u
 | [],_,_,_,h,_=>by simp only[pd] at h;cases h;exact⟨rfl,λ_ _ i x u G=>by simp at G⟩
 |v::l,a,o,B,h,p=>by
  simp only[pd] at h;split at h
  ·rename_i x L M Q R W;cases h;obtain⟨Z,f⟩:=cr.app p;obtain⟨t,D⟩:=wE z A l (λk q=>B k (by simp only[o2];exact k7 _ q)) W f;refine⟨by simp[t],λm F i y u r n=>?_⟩;cases i with
   |zero=>
    simp at r;subst r;exact acf z A v (λk q=>B k (by simp only[o2];exact l7 _ q)) R Z (F 0 v u rfl n)
   |succ i=>
    exact D (λj=>m (j+1)) (λj c u I n=>F (j+1) c u (by simpa using I) n) i y u (by simpa using r) n
  cases h
end
theorem acg(r: ∀k e,H k=aa e->cN β w X k e)(x: ∀b,X1 b->X b): ∀{l a:List V} {m:List du} {us:List Value},(∀k,k∈o2 H l-> ∀b,At β k b-> ¬X1 b)->
  pd H l=aa (a,m)->cr m->dw β w X l us->dw hf w X1 a us:=fun {l a m us} y h n q=>by obtain⟨z,A⟩:=wE r x l y h n;exact EH (by rw[z];exact q.dE.1) λi c u o p=>A (λi=>us[i]?) (λi c u o p=>q.dE.2 i c u o p) i c u o p
end
theorem aag{C:dQ}(xq:C.P=K.P)(lh:C.G=K.G){c:Operand}{i:Array Operand}{x:Array TypeId}{l:List V}{H:Nat->Option E}{N:List cq}{T:List du}(cM:ki K.nt d=ab)(hH: ∀k e,H k=aa e->s.H k=aa e)
  (R:l=s.get c::i.toList.map s.get) (h:GW C d H l N=aa (e,T,L)) (W:cr T):dY K ⟨d,.call {callee:= .value c,args:=i,argTypes:=x},ty,pos,af,g⟩ s (e.app s):=by
 unfold GW at h;split at h
 ·rename_i f m args;split at h
  ·rename_i r N;split at h
   ·rename_i ys ai7 n Z;cases h;rw[oK];obtain⟨x',⟨y,o⟩,_⟩:=cr.app W;rw[xq] at y o;rw[lh] at o;simp only[List.cons.injEq] at R;obtain⟨U,h1,h2,h3⟩:=y;intro β a w next Q q j
    have t:U.name≠ "runtime.NumGoroutine" :=by simpa using h2
    have v:U.body≠aj:=by intro e;simp[e] at h3
    obtain⟨us,D,I⟩:=(R.1.symm▸q.get c).Hk;have z:(execOp a.eval ⟨d,.call {callee:= .value c,args:=i,argTypes:=x},ty,pos,af,g⟩).run K.P w= .ok (.enter f (i.map a.eval++us)) w:=by
     simp[execOp,resolve,Deferred.ofValue,D,invoke,callFunc,h1,t,v]
    unfold Oper.wp;rw[z,Oper.upon_enter];have A:dw β w (own K β s.H) (args++m) (i.toList.map a.eval++us.toList):=by rw[R.2];exact(q.oi i.toList).app I
    let X1:Nat->Prop:=λb=>own K β s.H b/\ ∀k,k∈o2 H (args++m)-> ¬At β k b;have p:=acg (X1:=X1) (λk e M=>(q.heap k e (hH k e M)).2) (λb n=>n.1) (λk j b n hx=>hx.2 k j n) n x' A;have B:=o w X1 _ q.BD (λb n=>q.Im b n.1) p;have M:(List.map a.eval i.toList++us.toList).toArray=i.map a.eval++us:=by rw[<-vA,<-Array.toList_append]
    rw[M] at B;refine B.mono ?_;rintro e w' ⟨u,rfl,F,hu⟩;exact j β _ w' ((q.grow F).put d (hb cM) (Nf Z hu))
   cases h
  cases h
 cases h
theorem ab3{C:dQ}(M:C.P=K.P)(N:C.G=K.G){c:Operand}{Q:Array Operand}{x:Array TypeId}{m:List V}{H:Nat->Option E}{b R:List cq}{t:List du}(T:ki K.nt d=ab)
  (U: ∀k e,H k=aa e->s.H k=aa e) (hu: ∀k,u k=ak->s.u k=ak)
  (z:m=s.get c::Q.toList.map s.get) (h:G5 C d m H u b=aa (e,t,R)) (W:cr t):dY K ⟨d,.call {callee:= .value c,args:=Q,argTypes:=x},ty,pos,af,g⟩ s (e.app s):=by
 unfold G5 at h;split at h
 ·rename_i f A args;split at h
  ·rename_i L a r out b;split at h
   ·rename_i Z gW hc aP n;cases h;simp only[List.cons.injEq] at z;simp only[b5] at n;obtain⟨⟨p,B⟩,i⟩:=n;have i:=c4 i;obtain⟨⟨D,q⟩,_⟩:=W;rw[M] at D q;rw[N] at q;obtain⟨aS,a2⟩:=wS _ _ hc;obtain⟨i1,i2⟩:=Ao _ _ aP;have hx:=Ze (K:=K) (s:=s) (o:=⟨d,.call {callee:= .value c,args:=Q,argTypes:=x},ty,pos,af,g⟩) c L a A rfl z.1.symm D (hb T) (by rw[<-z.2,aS];exact mL _) a2 i1
     (λk e l=>by
      obtain⟨id,h1,h2,h4⟩:=i2 k e l;exact⟨id,h1,U _ _ h2,h4⟩)
     (zA p) (λid hid=>hu _ (Ky B id hid)) (λ_=>i) q
    have hj:=hx.j;have l:cX.app ⟨fx d (r.ee (L++a)),(L++a).zip (out.map λe=>aa (e.ee (L++a))),(L++a).map λk=>(k,ab)⟩ s=(s.after (L++a) out).put d (r.ee (L++a)):=by
     have e1:dn s.H ((L++a).zip (out.map λe=>aa (e.ee (L++a))))=lq s.H (L++a) (λk=>(out[k]?).map (E.ee (L++a))):=by
      have:=Kp (L++a) (zA p) s.H (out.map λe=>aa (e.ee (L++a))) (λk=>(out[k]?).map (E.ee (L++a))) (by simpa using i) (λk e l=>by
       rw[ek] at l;cases I:out[k]? with
       |none=>rw[I] at l;cases l
       |some y=>rw[I] at l;simp at l;rw[<-l];rfl)
      exact this
     have e2:dn s.u ((L++a).map λk=>(k,ab))=lq s.u (L++a) (λ_=>ab):=by
      funext id;by_cases F:id∈L++a
      ·obtain⟨k,hk⟩:=kx.1 F;rw[oA (zA p) hk];exact Kr F
      rw[nn F,mz _ _ _ λv z=>F (by obtain⟨y,hy,e⟩:=eo.1 z;cases e;exact hy)]
     unfold cX.app S.after;cases d<;>simp only[fx,dn,S.put,e1,e2]
    grind
   cases h
  cases h
 cases h
theorem WT{C:dQ}(r:dZ K.P C.cf){H:Nat->Option E}{v:V}(y: ∀k e,H k=aa e->s.H k=aa e)
  (z:s.get x=v) (h:F9 C t H v n=aa (e,m,c)) (a:cr m):dY K ⟨aj,.call {callee:= .builtin .clear,args:= #[x],argTypes:= #[t]},ty,pos,af,g⟩ s (e.app s):=by
 unfold F9 at h;split at h
 ·cases h
 rename_i i A;split at h
 ·rename_i l o;have B:K.P.underlying t=aa (.slice l):=(r _ _ A).iU.2.2.2 l o;split at h
  ·cases h
  rename_i j F;obtain⟨W,G,_⟩:=r _ _ F;split at h
  ·rename_i p;split at h
   ·rename_i L Q;cases h;obtain⟨rfl,rfl,q,⟨R,rfl⟩,_⟩:=a;exact abb x _ _ _ l _ _ _ z (y _ _ L) B G Q p q R
   cases h
  cases h
 cases h
theorem XV{C:dQ}(B:dZ K.P C.cf){F:TypeId}{H:Nat->Option E}{v w:V}{G:List cq}{L:List du}(Z: ∀k e,H k=aa e->s.H k=aa e)(b:ki K.nt d=ab)
  (f:s.get x=v) (u:s.get y=w) (h:Gp C d t H v w G=aa (e,L,n)) (o:cr L):dY K ⟨d,.call {callee:= .builtin .copy,args:= #[x,y],argTypes:= #[t,F]},ty,pos,af,g⟩ s (e.app s):=by
 unfold Gp at h;split at h
 ·cases h
 rename_i i D;split at h
 ·rename_i p q;have I:K.P.underlying t=aa (.slice p):=(B _ _ D).iU.2.2.2 p q;split at h
  ·cases h
  rename_i j Q;obtain⟨qW,M,_⟩:=B _ _ Q;split at h
  ·rename_i k gen W r z a R m G N;split at h
   ·rename_i T c A l U hp;cases h;obtain⟨rfl,rfl,rfl,rfl,b3,⟨cC,rfl⟩,_⟩:=o;have Q:=acU (K:=K) (s:=s) (d:=d) (ty:=ty) (pos:=pos) (af:=af) (g:=g) (gen:=c) (size:=j.size) x y k r z p T F l a (hb b) f (by rw[u,<-N];exact tG w) (Z _ _ U) I M (by simpa[Nat.blt_eq] using hp) b3 cC
    have: ∀v e,cX.app ⟨fx d v,[(k,aa e)],[]⟩ s=({s with H:=bc s.H k (aa e)}:S).put d v:=by intro v e;cases d<;>rfl
    grind
   cases h
  cases h
 cases h
theorem adw{C:dQ}(z:dZ K.P C.cf)(D:C.P=K.P)(N:C.G=K.G)(cG:C.nt=K.nt)(T:C.dL=K.dL){m:List V}{H:Nat->Option E}{I W:List cq}{Z:List du}
  (a:m=o.op.operands.toList.map s.get) (F: ∀k e,H k=aa e->s.H k=aa e) (R: ∀k,u k=ak->s.u k=ak) (h:Hj C o m H u I=aa (e,Z,W)) (l:cr Z):dY K o s (e.app s):=by
 obtain⟨d,b,ty,pos,af,g⟩:=o;unfold Hj at h;dsimp only at h;split at h
 ·cases h
 rename_i q;rw[cG] at q;have L: ∀{b:Op} {r:js},m=b.operands.toList.map s.get->(match xk C.P C.cf H b m I with|some (v,Z,I)=>aa ((⟨fx d v,[],[]⟩:cX),Z,I)|none=>aj)=aa (e,Z,W)->dY K ⟨d,b,ty,pos,af,g⟩ s (e.app s):=by
  intro b r a h;split at h
  ·rename_i v ai6 aiF n;cases h;rw[oK];rw[D] at n;exact Vc (vals:=m) (hb q) (fG.of_eq a.symm) ((adv z n l).sub F)
  cases h
 split at h
 ·split at h
  ·simp only[Op.operands,hX,List.map_nil,List.cons.injEq,and_true] at a;split at h
   ·exact XZ q a.symm h
   exact aaf R q a.symm h
  cases h
 ·split at h
  ·rename_i i aP;exact WV z aP R q h
  cases h
 ·split at h
  ·simp only[Op.operands,hX,List.map_nil,List.cons.injEq,and_true] at a;split at h
   ·rename_i n;cases h;exact WN z rfl F a.1.symm a.2.symm n l
   exact VH z F a.1.symm a.2.symm h l
  cases h
 ·split at h
  ·simp only[Op.operands,hX,List.map_nil,List.cons.injEq,and_true] at a;exact XT z R q a.1.symm a.2.symm h l
  cases h
 ·split at h
  ·rename_i n;cases h;exact Z9 z R q (by simpa[Op.operands] using a) n l
  exact XU z R q (by simpa[Op.operands] using a) h
 ·rename_i c;obtain⟨M,args,Q⟩:=c;dsimp only at h;split at h
  ·rename_i f;split at h
   ·exact ab3 D N q F R (by simpa[Op.operands,Call.operands] using a) h l
   split at h
   ·exact aag D N q F (by simpa[Op.operands,Call.operands] using a) h l
   exact XY D N q (by simpa[Op.operands,Call.operands] using a) h l
  ·split at h
   ·rename_i x y t U v w j A;have B:args= #[x,y]:=by rw[<-j]
    have p:Q= #[t,U]:=by rw[<-A]
    subst B;subst p;simp only[Op.operands,Call.operands] at a;simp at a;split at h
    ·rename_i n;cases h;exact VJ z T F q a.1.symm a.2.symm n l
    exact Vh z F q a.1.symm a.2.symm h l
   cases h
  ·split at h
   ·rename_i x t v j A;have B:args= #[x]:=by rw[<-j]
    have p:Q= #[t]:=by rw[<-A]
    subst B;subst p;simp only[Op.operands,Call.operands] at a;simp at a;exact WT z F a.symm h l
   cases h
  ·split at h
   ·rename_i x y t U v w j A;have B:args= #[x,y]:=by rw[<-j]
    have p:Q= #[t,U]:=by rw[<-A]
    subst B;subst p;simp only[Op.operands,Call.operands] at a;simp at a;exact XV z F q a.1.symm a.2.symm h l
   cases h
  ·exact L (r:=aj) a h
  cases h
 exact L (r:=aj) a h
def agm:V->List Nat
 | .ref id _=>[id]
 | .bn id _ _ _ _=>[id]
 | .cK id _ _ _ _=>[id]
 |_=>[]
def G2:List V->List Nat
 | []=>[]
 |v::a=>agm v++G2 a
def QO:List cq->List Nat
 | .nat k::a=>k::QO a
 |_=>[]
def agl:List cq->List Nat
 | .b ab::c=>QO c
 | .nat k::_=>[k]
 | .int _:: .nat k::_=>[k]
 | .fo L a _ _::_=>L++a
 | .lt k _ _::_=>[k]
 |_=>[]
def iZ(k:Nat):List Nat->Bool
 | []=>ak
 |x::l=>bif b4 x k then ab else iZ k l
theorem zQ{k:Nat}: ∀{l:List Nat},iZ k l=ab->k∈l
 | [],h=>by cases h
 |x::l,h=>by
  simp only[iZ] at h;cases a:b4 x k with
  |true=>rw[c4 a];exact en
  |false=>rw[a] at h;exact ec _ (zQ h)
def tZ(a:List Nat)(H:Nat->Option E):Nat->Option E:=λk=>bif iZ k a then H k else aj
def tY(a:List Nat)(u:Nat->Bool):Nat->Bool:=λk=>bif iZ k a then u k else ab
theorem W4{H:Nat->Option E}{e:E}(h:tZ r H k=aa e):H k=aa e:=by
 unfold tZ at h
 grind
theorem Vp(h:tY r u k=ak):u k=ak:=by
 unfold tY at h
 grind
def adR:Op->List V->Bool
 | .nilCheck _,[.cK _ _ _ _ _]=>ak
 | .move _,_| .assign _,_| .pick _ _ _,_| .nilCheck _,_| .binOp _ _ _ _ _,_| .unOp _ _ _,_| .convert _ _ _,_| .makeFunc _ _ _,_| .extract _ _,_| .field _ _ _,_| .build _ _,_=>ab
 | .fieldAddr _ _ _,[.ref _ _]=>ab
 |_,_=>ak
def adP:Op->Bool
 | .load _ _| .slice _ _ _ _ _| .fieldAddr _ _ _| .indexAddr _ _ _| .index _ _ _| .nilCheck _=>ab
 | .call c=>match c.callee with
  | .builtin .len=>ab
  | .builtin .max=>ab
  | .builtin .min=>ab
  |_=>ak
 |_=>ak
def uL(o:Oper)(a:List V)(c:List cq):List Nat:=match adR o.op a with
 |true=>[]
 |false=>match adP o.op with
  |true=>G2 a
  |false=>G2 a++agl c
def qA(C:dQ)(o:Oper)(a:List V)(s:S)(c:List cq):js:=Hj C o a (tZ (uL o a c) s.H) (tY (uL o a c) s.u) c
def H5:Bool->Bool->Bool
 |true,ab=>ab
 |false,ak=>ab
 |_,_=>ak
def uw(a:Array Oper)(j:Nat)(s:S):Option V:=match (a[j]?).bind (·.dst) with
 |some t=>aa (s.t t)
 |none=>aj
def r8(C:dQ)(h:Array Oper)(o:Oper)(a:List cq)(s:S):js:=
 match o.guard with
 |none=>qA C o (o.op.operands.toList.map s.get) s a
 |some (j,c)=>match uw h j s with
  |some (.bQ [])=>match ki C.nt o.dst with
   |true=>aa (⟨fx o.dst (.bQ []),[],[]⟩,[],a)
   |false=>aj
  |some (.t (.bool b))=>match a with
   | .b w::a=>match H5 w c with
    |true=>match qA C o (o.op.operands.toList.map s.get) s a with
     |some (e,i,a)=>aa (e,.p (b=w)::i,a)
     |none=>aj
    |false=>match ki C.nt o.dst with
     |true=>aa (⟨fx o.dst (.bQ []),[],[]⟩,[.p (b=w)],a)
     |false=>aj
   |_=>aj
  |_=>aj
end
structure dQ.Fits (C:dQ) (K:Ctx):Prop where
 T:dZ K.P C.cf
 P:C.P=K.P
 G:C.G=K.G
 nt:C.nt=K.nt
 dL:C.dL=K.dL
 gM:C.gM=K.gM
section
variable {K:Ctx}{s:S}{C:dQ}
theorem OT(a:C.Fits K)(h:qA C o (o.op.operands.toList.map s.get) s i=aa (e,m,c))(k:cr m):dY K o s (e.app s):=
 adw a.T a.P a.G a.nt a.dL rfl (λ_ _ h=>W4 h) (λ_ h=>Vp h) h k
theorem aaj{w v:Bool}(h:H5 w v=ab):w=v:=by cases w<;>cases v<;>first|rfl|cases h
theorem Ya{w v:Bool}(h:H5 w v=ak):w= !v:=by cases w<;>cases v<;>first|rfl|cases h
theorem NS{a:Array Oper}{j:Nat}{v:V}(h:uw a j s=aa v): ∃t,(a[j]?).bind (·.dst)=aa t/\s.t t=v:=by
 unfold uw at h
 grind
theorem OY(p:C.Fits K){V:Array Oper}(h:r8 C V o i s=aa (e,m,c))(a:cr m):iC K V o s (e.app s):=by
 unfold r8 at h;split at h
 ·rename_i l;exact iC.of l (OT p h a)
 rename_i j z l;split at h
 ·rename_i k;obtain⟨t,q,r⟩:=NS k;split at h
  ·rename_i x;cases h;rw[oK];exact iC.skip l q r (hb (p.nt▸x))
  cases h
 ·rename_i b k;obtain⟨t,q,r⟩:=NS k;split at h
  ·rename_i w i;split at h
   ·rename_i hw;have hw:=aaj hw;subst hw;split at h
    ·rename_i F A B y;cases h;obtain⟨rfl,n⟩:=a;exact iC.gW l q r (OT p y n)
    cases h
   rename_i hw;have hw:=Ya hw;subst hw;split at h
   ·rename_i x;cases h;obtain⟨rfl,_⟩:=a;rw[oK];exact iC.out l q r (hb (p.nt▸x))
   cases h
  cases h
 cases h
theorem ac9{V:Array Oper}{l:List Oper}{Q:S->Prop}(h:iC K V o s b)(k:qs K V l b Q):qs K V (o::l) s Q:=
 λβ a w c m n=>h β a w (wpList K.P V c l) c m λe p q i=>k e p q c i n
end
end Go.Lift
