/- Tools. -/
import Derived.Test.YtcihigfifglboabGreatHLiftTV
namespace Go.Lift
open Go
section
variable {P:Program} {cb:List (Nat×cj)} {H:Nat->Option E} {d:Option Tmp} {ty:TypeId} {pos:String} {af:Array Edge} {g:Option (Nat×Bool)}
variable {t:TypeId} {u:TypeDesc} {z:Value} {size bytes:Nat}
theorem AS(a:BinOp)(e:Ob a=true)(x y:Operand)(t h:TypeId)(k:IntKind)(m n:Int):b9 P H ⟨d,.binOp a t x y h,ty,pos,af,g⟩ [.t (.int k m),.t (.int k n)] (.t (.int k (bits a k m n))):=by
 intro i w X l _ c;refine⟨Value.int k (bits a k m n),?_,.t _ _ (.int k _)⟩;cases a<;>simp[Ob] at e<;>
  simp[execOp,dE c.1,dE c.2.1,eqGuard,binOp,intBits_and,intBits_or,intBits_xor,intBits_andNot]
theorem aac(x y:Operand)(t c:TypeId)(m n:List UInt8):b9 P H ⟨d,.binOp .lss t x y c,ty,pos,af,g⟩ [.t (.str m),.t (.str n)] (.t (.bool (Op.bytesLess m n))):=by intro e w X h _ a;refine⟨.bool (Op.bytesLess m n),?_,.t _ _ (.bool _)⟩;simp[execOp,hc a.1,hc a.2.1,eqGuard,binOp,Op.stringOp]
theorem aae(x y:Operand)(t c:TypeId)(m n:List UInt8):b9 P H ⟨d,.binOp .gtr t x y c,ty,pos,af,g⟩ [.t (.str m),.t (.str n)] (.t (.bool (!Op.bytesLess m n&& !m==n))):=by intro e w X h _ a;refine⟨.bool (!Op.bytesLess m n&& !m==n),?_,.t _ _ (.bool _)⟩;simp[execOp,hc a.1,hc a.2.1,eqGuard,binOp,Op.stringOp]
theorem aad(x y:Operand)(t c:TypeId)(m n:List UInt8):b9 P H ⟨d,.binOp .leq t x y c,ty,pos,af,g⟩ [.t (.str m),.t (.str n)] (.t (.bool (Op.bytesLess m n||m==n))):=by intro e w X h _ a;refine⟨.bool (Op.bytesLess m n||m==n),?_,.t _ _ (.bool _)⟩;simp[execOp,hc a.1,hc a.2.1,eqGuard,binOp,Op.stringOp]
theorem abm(x:Operand)(t:TypeId)(k:IntKind)(n:Int):b9 P H ⟨d,.unOp .neg t x,ty,pos,af,g⟩ [.t (.int k n)] (.t (.int k (k.wrap (0-n)))):=by intro c w X e _ a;refine⟨.int k (k.wrap (0-n)),?_,.t _ _ (.int _ _)⟩;simp[execOp,dE a.1,Op.unary,Op.intArith]
theorem T8(x:Operand)(f:FuncId)(a:List V):b9 P H ⟨d,.nilCheck x,ty,pos,af,g⟩ [.fn f a] (.fn f a):=by intro h w X c _ i;have e:bn h w X (.fn f a) (c x):=i.1;refine⟨c x,?_,e⟩;generalize k:c x=y at e;cases e with|fn=>simp[execOp,k]
variable {a v b:V}{x y:Operand}{i:BinOp}{k:TypeId}{m e r:List df}{n l c p q U:List ct}{D:Map}{w:World}{X:Nat->Prop}
theorem Yn{a:BinOp}{t i:TypeId}{k:IntKind}{m n:Int}(h:GH a k m n l=some (v,e,c))(o:ch e):
  b9 P H ⟨d,.binOp a t x y i,ty,pos,af,g⟩ [.t (.int k m),.t (.int k n)] v:=by
 cases a<;>simp only[GH,OJ,Option.some.injEq,Prod.mk.injEq,reduceCtorEq] at h<;>obtain⟨rfl,rfl,rfl⟩:=h
 ·exact abx _ _ _ _ _ _ _
 ·exact aau _ _ _ _ _ _ _
 ·exact abn _ _ _ _ _ _ _
 ·exact abj _ _ _ _ _ _ _ o.1
 ·exact aav _ _ _ _ _ _ _ o.1
 ·exact AS .and rfl _ _ _ _ _ _ _
 ·exact AS .or rfl _ _ _ _ _ _ _
 ·exact AS .xor rfl _ _ _ _ _ _ _
 ·exact AS .andNot rfl _ _ _ _ _ _ _
 ·exact abv _ _ _ _ _ _ _
 ·exact abl _ _ _ _ _ _ _
 ·exact abq _ _ _ _ _ _ _
 ·exact abr _ _ _ _ _ _ _
 ·exact abt _ _ _ _ _ _ _
 exact abu _ _ _ _ _ _ _
theorem YI{a:BinOp}{t:TypeId}{m n:List UInt8}(h:GB a m n l=some (v,e,c))(i:ch e):
  b9 P H ⟨d,.binOp a t x y k,ty,pos,af,g⟩ [.t (.str m),.t (.str n)] v:=by
 unfold GB at h;split at h<;>cases h
 ·obtain⟨o,rfl⟩:=Y' i.1;exact abw _ _ _ _ _ _ o
 ·exact aag _ _ _ _ _ _
 ·exact aab _ _ _ _ _ _
 ·exact aaf _ _ _ _ _ _
 ·exact aac _ _ _ _ _ _
 ·exact aae _ _ _ _ _ _
 exact aad _ _ _ _ _ _
theorem Ly(a:dU P cb)(h:Gt (dy cb t)=true):P.underlying t=some .bool:=by
 unfold Gt at h;split at h
 ·rename_i i c;split at h
  ·rename_i e;exact(a _ _ c).ig.1 e
  cases h
 cases h
theorem ET(a:dU P cb)(h:wL (dy cb t)=true):P.underlying t=some .string:=by
 unfold wL at h;split at h
 ·rename_i i c;split at h
  ·rename_i e;exact(a _ _ c).ig.2.2.1 e
  cases h
 cases h
theorem zU(a:dU P cb)(h:wX (dy cb t)=true): ∃e,P.underlying t=some (.slice e):=by
 unfold wX at h;split at h
 ·rename_i i c;split at h
  ·rename_i e k;exact⟨e,(a _ _ c).ig.2.2.2 e k⟩
  cases h
 cases h
theorem vK{u:Value}(h:bn D w X (.t .gu) u):u= .nilIface:=by cases h with|t _ _ h=>cases h with|gu=>rfl
theorem NI{u:Value}(h:bn D w X (.t .err) u): ∃t v,u= .iface t v:=by cases h with|t _ _ h=>cases h with|err t v=>exact⟨t,v,rfl⟩
theorem Sf(w:World)(n:Nat){ms}(a:TypeId)(b:Value)(c:P.underlying t=some (.interface ms)):(Op.equalIn (n+1) t (.iface a b) .nilIface).run P w= .ok false w:=by simp[Op.equalIn,run_underlying c]
theorem RS(w:World)(n:Nat){ms}(a:P.underlying t=some (.interface ms)):(Op.equalIn (n+1) t .nilIface .nilIface).run P w= .ok true w:=by simp[Op.equalIn,run_underlying a]
theorem LL(w:World){ms}(a:TypeId)(b:Value)(c:P.underlying t=some (.interface ms)):(Op.equal t (.iface a b) .nilIface).run P w= .ok false w:=Sf w 9999 a b c
theorem KF(w:World){ms}(a:P.underlying t=some (.interface ms)):(Op.equal t .nilIface .nilIface).run P w= .ok true w:=RS w 9999 a
theorem Wr(a b):binOp .eql t (.iface a b) .nilIface=(do pure (.bool (<-Op.equal t (.iface a b) .nilIface))):=rfl
theorem Wq(a b):binOp .neq t (.iface a b) .nilIface=(do pure (.bool (!(<-Op.equal t (.iface a b) .nilIface)))):=rfl
theorem Wp:binOp .eql t .nilIface .nilIface=(do pure (.bool (<-Op.equal t .nilIface .nilIface))):=rfl
theorem Wo:binOp .neq t .nilIface .nilIface=(do pure (.bool (!(<-Op.equal t .nilIface .nilIface)))):=rfl
theorem LM(w:World)(o:BinOp)(x y:Operand)(a:(pb x||pb y)=true):(eqGuard o t x y .nilIface .nilIface).run P w= .ok () w:=by cases x<;>cases y<;>simp[pb] at a<;>simp[eqGuard]<;>split<;>simp
theorem aal(x y:Operand)(e:TypeId){ms}(h:P.underlying t=some (.interface ms)):b9 P H ⟨d,.binOp .eql t x y e,ty,pos,af,g⟩ [.t .err,.t .gu] (.t (.bool false)):=by intro k w X l _ c;obtain⟨a,b,i⟩:=NI c.1;refine⟨.bool false,?_,.t _ _ (.bool _)⟩;simp[execOp,i,vK c.2.1,eqGuard,Wr,LL w a b h]
theorem aak(x y:Operand)(e:TypeId){ms}(h:P.underlying t=some (.interface ms)):b9 P H ⟨d,.binOp .neq t x y e,ty,pos,af,g⟩ [.t .err,.t .gu] (.t (.bool true)):=by intro k w X l _ c;obtain⟨a,b,i⟩:=NI c.1;refine⟨.bool true,?_,.t _ _ (.bool _)⟩;simp[execOp,i,vK c.2.1,eqGuard,Wq,LL w a b h]
theorem aai(x y:Operand)(c:TypeId){ms}(e:P.underlying t=some (.interface ms))(h:(pb x||pb y)=true):b9 P H ⟨d,.binOp .eql t x y c,ty,pos,af,g⟩ [.t .gu,.t .gu] (.t (.bool true)):=by intro i w X k _ a;refine⟨.bool true,?_,.t _ _ (.bool _)⟩;simp[execOp,vK a.1,vK a.2.1,LM w _ x y h,Wp,KF w e]
theorem aah(x y:Operand)(c:TypeId){ms}(e:P.underlying t=some (.interface ms))(h:(pb x||pb y)=true):b9 P H ⟨d,.binOp .neq t x y c,ty,pos,af,g⟩ [.t .gu,.t .gu] (.t (.bool false)):=by intro i w X k _ a;refine⟨.bool false,?_,.t _ _ (.bool _)⟩;simp[execOp,vK a.1,vK a.2.1,LM w _ x y h,Wo,KF w e]
theorem zV{a:List (Nat×cj)}(e:dU P a)(h:GN (dy a t)=true): ∃ms,P.underlying t=some (.interface ms):=by
 unfold GN at h;split at h
 ·rename_i i k;split at h
  ·rename_i l;obtain⟨u,n,c⟩:=e _ _ k;simp only[cj.is,l] at c;obtain⟨m,rfl⟩:=c;exact⟨m,n.1⟩
  cases h
 cases h
theorem Yo{e:List (Nat×cj)}(q:dU P e)(h:GI e i t x y a b l=some (v,m,c)):
  b9 P H ⟨d,.binOp i t x y k,ty,pos,af,g⟩ [a,b] v:=by
 unfold GI at h;split at h
 ·rename_i n p;obtain⟨ms,o⟩:=zV q n;cases h;exact aal _ _ _ o
 ·rename_i n p;obtain⟨ms,o⟩:=zV q n;cases h;exact aak _ _ _ o
 ·rename_i n p;obtain⟨ms,o⟩:=zV q n;cases h;exact aai _ _ _ o p
 ·rename_i n p;obtain⟨ms,o⟩:=zV q n;cases h;exact aah _ _ _ o p
 cases h
theorem Sn(w:World)(n:Nat){e}(a:Addr)(l c:Nat)(h:P.underlying t=some (.slice e)):(Op.equalIn (n+1) t (.slice (some a) l c) (.slice none 0 0)).run P w= .ok false w:=by simp[Op.equalIn,run_underlying h]
theorem Yh(w:World){e}(a:Addr)(l c:Nat)(h:P.underlying t=some (.slice e)):(Op.equal t (.slice (some a) l c) (.slice none 0 0)).run P w= .ok false w:=Sn w 9999 a l c h
theorem Zb(a:Addr)(l c:Nat):binOp .eql t (.slice (some a) l c) (.slice none 0 0)=(do pure (.bool (<-Op.equal t (.slice (some a) l c) (.slice none 0 0)))):=rfl
theorem Zk(x y:Operand)(n:TypeId)(i:List (List T)){e}(o:P.underlying t=some (.slice e))(p:i≠[]):b9 P H ⟨d,.binOp .eql t x y n,ty,pos,af,g⟩ [.t (.aE i),.t .fl] (.t (.bool false)):=by
 intro C w X k _ m;obtain⟨a,l,c,q⟩: ∃a l c,k x= .slice (some a) l c:=by
  cases m.1 with|t _ _ h=>
  generalize r:k x=u at h;cases h with
  |fS=>exact bB rfl p
  |aE _ b s size A f=>exact⟨_,_,_,rfl⟩
 have B:k y= .slice none 0 0:=by
  cases m.2.1 with|t _ _ h=>
  generalize r:k y=u at h;cases h;rfl
 refine⟨.bool false,?_,.t _ _ (.bool _)⟩;simp[execOp,q,B,eqGuard,Zb,Yh w a l c o]
theorem Yj{i:List (Nat×cj)}(p:dU P i){k:BinOp}{l:TypeId}(h:GC i k t a b n=some (v,m,c))(o:ch m):
  b9 P H ⟨d,.binOp k t x y l,ty,pos,af,g⟩ [a,b] v:=by
 unfold GC at h;split at h
 ·rename_i q;obtain⟨e,r⟩:=zU p q;cases h;exact Zk _ _ _ _ r o.1
 cases h
theorem Ua(x y:Operand)(e n c a k:Nat){u:TypeDesc}{z:Value}{i L:Nat}(m:P.underlying t=some (.array n e))(o:cd P e u z i L)(r:k<n):
  b9 P H ⟨d,.indexAddr t x y,ty,pos,af,g⟩ [.ref c a,.t (.int .i64 (k:Int))] (.ref c (a+k*i)):=by intro s w X A B l;have cH:=dE l.2.1;obtain⟨b,p,q⟩:=tl l.1;refine⟨.pointer (some ⟨b,a+k*i,none⟩),?_,.ref _ _ _ p⟩;simp[execOp,q,cH,Instr.indexAt,asIntOf,run_underlying m,o.run_sizeOf,iZ,Instr.sureAddr];intro h;omega
theorem Yu(A:dU P cb){t:TypeId}(h:GM P cb i t a b c=some (v,e,l))(m:ch e):
  b9 P H ⟨d,.binOp i t x y k,ty,pos,af,g⟩ [a,b] v:=by
 unfold GM at h;split at h
 ·split at h
  ·rename_i B;subst B;exact Yn h m
  cases h
 ·exact YI h m
 ·split at h
  ·rename_i n;cases h;exact aan _ _ _ _ _ (Ly A n)
  ·rename_i n;cases h;exact aam _ _ _ _ _ (Ly A n)
  cases h
 ·split at h
  ·rename_i ms o b c p q;cases h;obtain⟨r,s,w,_⟩:=m;rw[yQ p,yQ q,<-w];exact WQ _ _ _ _ ms o r aW (by simp[s])
  ·rename_i ms o b c p q;cases h;obtain⟨r,s,w,_⟩:=m;rw[yQ p,yQ q,<-w];exact WN _ _ _ _ ms o r aW (by simp[s])
  cases h
 cases h
theorem ZJ{e:UnOp}(h:GS e a l=some (v,m,c)):
  b9 P H ⟨d,.unOp e t x,ty,pos,af,g⟩ [a] v:=by
 unfold GS at h;split at h<;>cases h
 ·exact abk _ _ _
 exact abm _ _ _ _
theorem UR(k:dU P cb){i:cj}(l:dy cb t=some i)(h:Fo cb (some i)=true): ∃e,P.underlying t=some (.slice e)/\P.underlying e=some (.int .u8):=by
 unfold Fo at h;split at h
 ·rename_i o a;cases a;split at h
  ·rename_i e m;split at h
   ·rename_i j n;split at h
    ·rename_i c;exact⟨e,(k _ _ l).ig.2.2.2 e m,(k _ _ n).ig.2.1 _ c⟩
    cases h
   cases h
  cases h
 cases h
theorem WV(y:dU P cb){c o:TypeId}(h:Gd cb c o a p=some (v,r,q))(s:ch r):
  b9 P H ⟨d,.convert c o x,ty,pos,af,g⟩ [a] v:=by
 unfold Gd at h;split at h
 ·rename_i i j D F;split at h
  ·rename_i I k n m p A;cases h;obtain⟨G,w,_⟩:=y _ _ D;have B:I.wrap n=m:=s.1;rw[<-B];exact NV _ _ _ _ _ G _ w.1 ((y _ _ F).ig.2.1 _ A)
  ·rename_i k n m p A;cases h;have B:UInt8.ofInt n=m:=s.1;rw[<-B];obtain⟨G,w,_⟩:=y _ _ D
   have:=NV (P:=P) (H:=H) (d:=d) (ty:=ty) (pos:=pos) (af:=af) (g:=g) x c o k .u8 G n w.1 ((y _ _ F).ig.2.1 _ A);rw[M9] at this;exact this
  ·rename_i C l p A;split at h
   ·rename_i K;cases h;have B:C=l.map ns:=s.1;obtain⟨e,L,Q⟩:=UR y D K;rw[B];exact Uc _ _ _ _ _ L Q ((y _ _ F).ig.2.2.1 A)
   cases h
  cases h
 cases h
theorem TD(x:Operand)(r gen i a:Nat)(s:TypeId)(sz:Nat)(k:List (List T))(e:List T)(K:cd P t u z size bytes)(L:km u=true)(D:H r=some (.arr s gen sz k))(o:k[i]? =some e)(S:a+size<=e.length):
  b9 P H ⟨d,.load t x,ty,pos,af,g⟩ [.cB r gen sz i a] (.agg (((e.drop a).take size).map .t)):=by
 intro V w X ρ F Q;obtain⟨q,G⟩:=je (F r _ D);obtain⟨b,y,R⟩:=om Q.1 G;subst y;have a':=G;rcases(F r _ D).2 with ⟨A,B⟩|⟨gf,C,A,B,h3,U,W⟩
 ·rw[B] at o;simp at o
 rw[a'] at A;cases A;have Y:i<k.length:=(bS.1 o).1;have f:e.length=sz:=U e (bE o);have p: ∀j,j<size->i*sz+a+j<C.size:=by
  intro j n
  have:(i+1)*sz<=k.length*sz:=dz _ Y;rw[dn] at this;omega
 have l: ∀j,j<size->w.cell? ⟨b,i*sz+a+j,none⟩=some (C.getD (i*sz+a+j) undef):=λj n=>by
  have:=p j n;simp[World.cell?,B,this]
 refine⟨_,by simp[execOp,R,Instr.loadAt,Instr.sureAddr,K.CL w L l];rfl,?_⟩;refine .agg _ _ bQ λj c v h I=>?_;have n:j<size:=by
  have:=(bS.1 h).1;simp at this;omega
 rw[ev,Da n,fT] at h;simp only[List.getElem?_toArray,List.getElem?_map,List.getElem?_range n,Option.map_some,Option.some.injEq] at I;cases m:e[a+j]? with
 |none=>rw[m] at h;simp at h
 |some M=>
  rw[m] at h;simp at h;rw[<-h]
  have:=p j n;have N:=W i (a+j) e M C[i*sz+a+j] o m (by rw[<-pH];simp[this]);rw[<-I];simp only[Array.getElem?_eq_getElem this,Option.getD_some];exact .t _ _ N
theorem LK(G:dU P cb)(h:tE cb H t a l=some (v,e,n))(w:ch e):
  b9 P H ⟨d,.load t x,ty,pos,af,g⟩ [a] v:=by
 unfold tE at h;split at h
 ·cases h
 rename_i i I;obtain⟨K,q,m⟩:=(G _ _ I).agg;split at h
 ·rename_i id B;split at h
  ·rename_i cs s;split at h
   ·rename_i o;split at h
    ·rename_i p;cases h;exact Zl _ _ _ _ q (m.trans o) s p
    cases h
   rename_i o;split at h
   ·rename_i c C;cases h;exact YS _ _ _ _ _ q (m.trans o) s C
   cases h
  cases h
 ·rename_i cs;split at h
  ·rename_i o;split at h
   ·rename_i p;cases h;exact Va _ _ q (m.trans o) (d' p)
   cases h
  rename_i o;split at h
  ·cases h;exact Vb _ _ _ q (m.trans o)
  cases h
 ·rename_i id gen L k B;split at h
  ·rename_i y D A r l s o;split at h
   ·rename_i c C;cases h;obtain⟨rfl,rfl,F,_⟩:=w;exact TE _ _ _ _ _ _ _ _ _ _ q (m.trans o) s F C
   cases h
  ·rename_i y D A r l s o;split at h
   ·rename_i p;cases h;obtain⟨rfl,rfl,F,_⟩:=w;exact TD _ _ _ _ _ _ _ _ _ q (m.trans o) s F (d' p)
   cases h
  cases h
 cases h
theorem KE{j:Nat}: ∀{c:List (Nat×Nat×V)},rI j c=none-> ∀i v,(i,j,v)∉c
 | [],_,_,_,h=>by cases h
 |h::c,a,i,v,hm=>by
  simp only[rI] at a;cases e:Nat.beq h.2.1 j with
  |true=>rw[e] at a;cases a
  |false=>
   rw[e] at a;rcases dP.1 hm with rfl|hm
   ·simp at e
   exact KE a i v hm
theorem Ep{j:Nat}{x:Nat×V}: ∀{c:List (Nat×Nat×V)},rI j c=some x->(x.1,j,x.2)∈c
 |h::c,a=>by
  simp only[rI] at a;cases e:Nat.beq h.2.1 j with
  |true=>
   rw[e] at a;cases a
   have:=cM e;subst this;exact eU
  |false=>rw[e] at a;exact ey _ (Ep a)
theorem yU{U:List (Nat×Nat×V)}{k:Nat}: ∀{n j:Nat} {l:List (Nat×V)},rD U j n=some l->ch (rL k l)->l.length=n/\ ∀i v,(l.map (·.2))[i]? =some v->(k,j+i,v)∈U
 |0,_,_,h,_=>by cases h;exact⟨rfl,λi v h=>by simp at h⟩
 |n+1,j,l,h,a=>by
  simp only[rD] at h;split at h
  ·rename_i x p m o;cases h;simp only[rL] at a;obtain⟨e,a⟩:=a;obtain⟨aK,a2⟩:=yU o a;refine⟨by simp[aK],λi v c=>?_⟩;cases i with
   |zero=>
    simp at c;subst c
    have:=Ep m;rw[e] at this;exact this
   |succ i=>
    have:=a2 i v (by simpa using c)
    rwa [show j+1+i=j+(i+1) by omega] at this
  cases h
theorem VI(R:dU P cb){Q:List ct}{f:List df}(h:FK cb H t a Q=some (v,f,U))(o:ch f):
  b9 P H ⟨d,.load t x,ty,pos,af,g⟩ [a] v:=by
 unfold FK at h;split at h
 ·rename_i i id gen M k I r Q K;obtain⟨N,y,n⟩:=(R _ _ K).agg;split at h
  ·rename_i A m B e L C;split at h
   ·rename_i w;split at h
    ·rename_i c D F;split at h
     ·rename_i W;cases h;obtain⟨rfl,p,s,_⟩:=o;exact C3 _ _ _ _ _ A m _ e L r c _ y (n.trans w) C p s D (.inr ⟨λv=>KE F _ _,W,rfl⟩)
     cases h
    ·rename_i c S T D F;cases h;obtain⟨rfl,p,s,rfl,_⟩:=o;exact C3 _ _ _ _ _ A m _ e _ r c _ y (n.trans w) C p s D (.inl (Ep F))
    cases h
   rename_i w;split at h
   ·rename_i l X F;cases h;obtain⟨rfl,p,s,G⟩:=o;obtain⟨Y,b⟩:=yU F G;exact JO _ _ _ _ _ A m _ e L r _ y (n.trans w) C p s (d' X) (by simp[Y]) b
   cases h
  cases h
 ·rename_i i id gen M k I q r Q K;obtain⟨N,y,n⟩:=(R _ _ K).agg;split at h
  ·rename_i A m B e L C;split at h
   ·rename_i c S cW T w D G;cases h;obtain⟨rfl,p,s,rfl,rfl,_⟩:=o;exact C3 _ _ _ _ _ A m _ e _ r c _ y (n.trans w) C p s D (.inl (bE G))
   ·rename_i w;split at h
    ·rename_i l X F;cases h;obtain⟨rfl,p,s,G⟩:=o;obtain⟨Y,b⟩:=yU F G;exact JO _ _ _ _ _ A m _ e L r _ y (n.trans w) C p s (d' X) (by simp[Y]) λj v bI=>e7 (b j v bI)
    cases h
   cases h
  cases h
 ·rename_i i id gen M k I q r Q K;obtain⟨N,y,n⟩:=(R _ _ K).agg;split at h
  ·rename_i A m B e L C;split at h
   ·rename_i c w D W;cases h;obtain⟨rfl,p,s,G⟩:=o;exact C3 _ _ _ _ _ A m _ e _ r c _ y (n.trans w) C p s D (.inr ⟨wu G,W,rfl⟩)
   cases h
  cases h
 cases h
theorem VK(C:dU P cb){k:Nat}(h:FM cb H t k a l=some (v,m,c))(r:ch m):
  b9 P H ⟨d,.fieldAddr t x k,ty,pos,af,g⟩ [a] v:=by
 unfold FM at h;split at h
 ·cases h
 rename_i i G;split at h
 ·rename_i Q I;obtain⟨s,y,A,_⟩:=(C _ _ G).st I;have w:P.underlying t=some (.struct s):=y.1;split at h
  ·cases h
  rename_i D n;rw[<-A,ev] at n;cases q:s[k]? with
  |none=>rw[pI,q] at n;cases n
  |some K=>
  rw[pI,q] at n;simp only[Option.map_some,Option.some.injEq] at n;subst n;split at h
  ·cases h
  rename_i j L;obtain⟨R,o,_⟩:=C _ _ L;split at h
  ·cases h
  rename_i F;have p:(j.size==0)=false:=by
   rw[beq_eq_false_iff_ne];intro e;rw[e] at F;cases F
  split at h
  ·cases h;exact Ub _ _ _ _ _ _ _ _ _ _ _ w q rfl o p
  ·cases h;exact Ve _ _ _ _ _ _ _ _ _ _ w q rfl o p
  ·split at h
   ·rename_i B;cases h;obtain⟨rfl,rfl,_⟩:=r;exact TG _ _ _ _ _ _ _ _ _ _ _ _ _ _ w q rfl o p _ _ B
   ·rename_i B;cases h;obtain⟨rfl,_⟩:=r;exact TH _ _ _ _ _ _ _ _ _ _ _ _ _ _ w q rfl o p _ B rfl
   cases h
  cases h
 cases h
theorem Yr(y:dU P cb){k:Nat}(h:GK cb t k a l=some (v,e,c)):
  b9 P H ⟨d,.field t x k,ty,pos,af,g⟩ [a] v:=by
 unfold GK at h;split at h
 ·cases h
 rename_i i B;split at h
 ·rename_i K C;obtain⟨r,n,s,_⟩:=(y _ _ B).st C;split at h
  ·cases h
  rename_i A m;rw[<-s,ev] at m;cases q:r[k]? with
  |none=>rw[pI,q] at m;cases m
  |some D=>
  rw[pI,q] at m;simp only[Option.map_some,Option.some.injEq] at m;subst m;split at h
  ·cases h
  rename_i j F;obtain⟨L,o,p⟩:=(y _ _ F).agg;split at h
  ·split at h
   ·rename_i w;split at h
    ·rename_i G;cases h;exact Mh _ _ _ _ _ _ n q o (.inl ⟨p.trans w,G,rfl⟩)
    cases h
   rename_i w;split at h
   ·rename_i I;cases h;exact Mh _ _ _ _ _ _ n q o (.inr ⟨p.trans w,I⟩)
   cases h
  cases h
 cases h
theorem iW{n:Int}(h:0<=n):n=((n.toNat:Nat):Int):=O
theorem Yp(I:dU P cb){o:List df}(h:GJ cb H t a b c=some (v,o,l))(q:ch o):
  b9 P H ⟨d,.indexAddr t x y,ty,pos,af,g⟩ [a,b] v:=by
 unfold GJ at h;split at h
 ·cases h
 rename_i i X;split at h
 ·rename_i e K;have B:P.underlying t=some (.slice e):=(I _ _ X).ig.2.2.2 e K;split at h
  ·cases h
  rename_i j L;obtain⟨Y,C,_⟩:=I _ _ L;split at h
  ·rename_i p n;split at h
   ·rename_i r c;split at h
    ·rename_i w;cases h;obtain⟨D,Q⟩:=mw (show au p n=some r from q.1);rw[iW D];exact Vd _ _ _ _ _ _ B C Q (cM w)
    cases h
   cases h
  ·rename_i id gen size A len n;split at h
   ·rename_i s f p R w;cases h;obtain⟨rfl,rfl,⟨D,Q⟩,_⟩:=q;have U:n.toNat<len:=O
    have:=cM w;subst this;have F:=T' (P:=P) (H:=H) (d:=d) (ty:=ty) (pos:=pos) (af:=af) (g:=g) x y e id s A len n.toNat _ _ R B C U;rw[<-iW D] at F;exact F
   ·rename_i m s p M R w;cases h;obtain⟨rfl,⟨D,Q⟩,_⟩:=q;have U:n.toNat<len:=O
    have:=cM w;subst this;have F:=TF (P:=P) (H:=H) (d:=d) (ty:=ty) (pos:=pos) (af:=af) (g:=g) x y e id _ A len n.toNat _ R rfl B C U;rw[<-iW D] at F;exact F
   cases h
  cases h
 ·rename_i m e K;obtain⟨N,W,G⟩:=I _ _ X;have B:P.underlying t=some (.array m e):=by
   simp only[cj.is,K] at G;rw[<-G];exact W.1
  split at h
  ·cases h
  rename_i j L;obtain⟨Y,C,_⟩:=I _ _ L;split at h
  ·rename_i id A n k c;split at h
   ·rename_i w;cases h;rw[show n=(k:Int) from q.1];exact Ua _ _ _ _ _ _ _ B C (d' w)
   cases h
  cases h
 cases h
theorem VJ(k:dU P cb)(h:FL cb t a b q=some (v,e,p))(i:ch e):
  b9 P H ⟨d,.index t x y,ty,pos,af,g⟩ [a,b] v:=by
 unfold FL at h;split at h
 ·rename_i l n c q m;cases h;obtain⟨o,r⟩:=mw (show au l n=some c from i.1);rw[iW o];exact WM _ _ _ _ _ (ET k m) r
 cases h
theorem Ym(o:dU P cb)(h:GG cb H t a l=some (v,m,c))(i:ch m):
  b9 P H ⟨d,.call {callee:= .builtin .len,args:= #[x],argTypes:= #[t]},ty,pos,af,g⟩ [a] v:=by
 unfold GG at h;split at h
 ·split at h
  ·rename_i k;cases h;exact WC _ _ (ET o k)
  cases h
 ·split at h
  ·rename_i k;cases h;obtain⟨e,n⟩:=zU o k;have q:=i.1;rw[<-q];exact WO _ _ _ n
  cases h
 ·split at h
  ·rename_i p k;cases h;obtain⟨rfl,rfl,rfl,_⟩:=i;obtain⟨e,n⟩:=zU o k;exact WD _ _ _ _ _ _ _ n _ _ p
  ·rename_i p k;cases h;obtain⟨rfl,rfl,_⟩:=i;obtain⟨e,n⟩:=zU o k;exact Vc _ _ _ _ _ _ _ n _ p rfl
  cases h
 cases h
theorem VH(G:dU P cb){y A:Option Operand}{B:List V}{N:List ct}{l1:List df}(h:FJ cb H t y A B U=some (v,l1,N))(n:ch l1):
  b9 P H ⟨d,.slice t x y A none,ty,pos,af,g⟩ B v:=by
 unfold FJ at h;split at h
 ·rename_i l Y;split at h
  ·rename_i a b r U S c;cases h;obtain⟨k,T,f,rfl⟩:=zL n.1;have p:=ET G S;unfold rJ at c;split at c
   ·cases c;rw[iW k,iW (O:0<=b)];exact Ur _ _ _ _ _ _ p O O
   ·cases c
    have:=R0 (P:=P) (H:=H) (d:=d) (ty:=ty) (pos:=pos) (af:=af) (g:=g) x ‹_› l a.toNat p O;rw[<-iW k] at this;simpa using this
   ·cases c
    have:=Sp (P:=P) (H:=H) (d:=d) (ty:=ty) (pos:=pos) (af:=af) (g:=g) x ‹_› l b.toNat p O;rw[<-iW (O:0<=b)] at this;simpa using this
   cases c
  cases h
 ·rename_i C Y;split at h
  ·cases h
  rename_i i I;split at h
  ·rename_i e hu;have p:P.underlying t=some (.slice e):=(G _ _ I).ig.2.2.2 e hu;split at h
   ·rename_i j a b r U K c;cases h;obtain⟨W,D,_⟩:=n;obtain⟨k,T,f,rfl⟩:=zL W;obtain⟨qH,s,_⟩:=G _ _ K;unfold rJ at c;split at c
    ·cases c;rw[iW k,iW (O:0<=b)];exact U8 _ _ _ _ _ _ _ p s O O D
    ·cases c
     have:=Sb (P:=P) (H:=H) (d:=d) (ty:=ty) (pos:=pos) (af:=af) (g:=g) x ‹_› e C a.toNat p s O D;rw[<-iW k] at this;simpa using this
    ·cases c
     have:=Sx (P:=P) (H:=H) (d:=d) (ty:=ty) (pos:=pos) (af:=af) (g:=g) x ‹_› e C b.toNat p s O D;rw[<-iW (O:0<=b)] at this;simpa using this
    cases c
   cases h
  cases h
 ·rename_i id aho sz L q Y;split at h
  ·rename_i i lC I M;split at h
   ·rename_i e hu;have p:P.underlying t=some (.slice e):=(G _ _ I).ig.2.2.2 e hu;obtain⟨G3,hH,M⟩:=Option.bind_eq_some_iff.1 M;have Q: ∀{a b:Int},rJ y A q Y=some (a,b)->0<=a->0<=b-> ∀β w X (F:Operand->Value),dv β w X Y (y.toList.map F++A.toList.map F)->qb q y A F a.toNat b.toNat:=by
     intro a b c W k β w X F D;unfold rJ at c;split at c
     ·cases c;refine⟨?_,?_⟩
      ·show F _=_;rw[yE W];exact dE D.1
      show F _=_;rw[yE k];exact dE D.2.1
     ·cases c;refine⟨?_,by show _=_;simp⟩;show F _=_;rw[yE W];exact dE D.1
     ·cases c;refine⟨by show _=_;simp,?_⟩;show F _=_;rw[yE k];exact dE D.1
     cases c
    split at h
    ·rename_i j a b o m U K c;cases h;obtain⟨rfl,rfl,⟨k,T,f,h4,rfl,rfl⟩,_⟩:=n;obtain⟨qH,s,_⟩:=G _ _ K;exact aaa x y A e id _ L q a.toNat b.toNat G3 hH M p s O O O (Q c k O)
    ·rename_i j a b U K c;cases h;obtain⟨rfl,⟨k,rfl,f⟩,_⟩:=n;obtain⟨qH,s,_⟩:=G _ _ K;exact Zj x y A e id _ _ L q a.toNat G3 hH M p s O (Q c k k)
    ·rename_i j a b o m U K c;split at h
     ·rename_i R;cases h;obtain⟨rfl,rfl,rfl,⟨W,k,T,f,rfl,rfl⟩,_⟩:=n;obtain⟨qH,s,_⟩:=G _ _ K;exact Zi x y A e _ id _ L q a.toNat b.toNat _ R p s W O O (Q c k O)
     cases h
    cases h
   cases h
  cases h
 cases h
theorem UJ(B:dU P cb){m n:Operand}{k:List V}(h:Fk cb H t k p=some (v,r,l))(o:ch r):
  b9 P H ⟨d,.slice t x (some y) (some m) (some n),ty,pos,af,g⟩ k v:=by
 unfold Fk at h;split at h
 ·rename_i id Q R q s a b c;split at h
  ·rename_i i U w A;split at h
   ·rename_i e C;have D:P.underlying t=some (.slice e):=(B _ _ w).ig.2.2.2 e C;obtain⟨F,G,A⟩:=Option.bind_eq_some_iff.1 A;split at h
    ·rename_i j I;cases h;obtain⟨rfl,⟨K,W,X,Y⟩,_⟩:=o;obtain⟨f,L,_⟩:=B _ _ I;rw[iW K,iW (O:0<=b),iW (O:0<=c)];exact WL x y m n e id _ _ q s a.toNat b.toNat c.toNat F G A D L O O O
    cases h
   cases h
  cases h
 cases h
theorem WW(o:dU P cb){m:Operand}{a:List V}(h:Ge cb t a l=some (v,r,c))(k:ch r):
  b9 P H ⟨d,.slice t x none (some y) (some m),ty,pos,af,g⟩ a v:=by
 unfold Ge at h;split at h
 ·split at h
  ·rename_i i n;split at h
   ·rename_i e p;have q:P.underlying t=some (.slice e):=(o _ _ n).ig.2.2.2 e p;split at h
    ·rename_i j s;cases h;obtain⟨⟨w,rfl⟩,A,_⟩:=k;obtain⟨F,B,C,rfl⟩:=zL w;obtain⟨G,D,_⟩:=o _ _ s
     have:=TB (P:=P) (H:=H) (d:=d) (ty:=ty) (pos:=pos) (af:=af) (g:=g) x y m e _ _ q D (Int.toNat_le.2 C) A;rw[<-iW B] at this;simpa using this
    cases h
   cases h
  cases h
 cases h
theorem TW(o:dU P cb){b:Builtin}{c:List TypeId}{e:List Operand}{a:List V}(h:EX cb H b c e a n=some (v,m,l))(i:ch m):
  b9 P H ⟨d,.call {callee:= .builtin b,args:=e.toArray,argTypes:=c.toArray},ty,pos,af,g⟩ a v:=by
 unfold EX at h;split at h
 ·exact Ym o h i
 ·split at h
  ·rename_i k;subst k;cases h;exact abp _ _ _ _ _ _
  cases h
 ·split at h
  ·rename_i k;subst k;cases h;exact abo _ _ _ _ _ _
  cases h
 cases h
theorem Yk(h:GD H a l=some (v,e,c))(i:ch e):b9 P H ⟨d,.nilCheck x,ty,pos,af,g⟩ [a] v:=by
 unfold GD at h;split at h
 ·split at h
  ·rename_i o k;cases h;obtain⟨rfl,_⟩:=i;obtain⟨m,n,k⟩:=Option.bind_eq_some_iff.1 k;exact T9 _ _ _ _ _ _ m n k
  cases h
 ·cases h;exact Kv _ _ rfl
 ·cases h;exact Kv _ _ rfl
 ·cases h;exact T8 _ _ _
 cases h
theorem VM(p:dU P cb){c:Array (Nat×Operand)}{a:List V}(h:FO cb t (c.toList.map (·.1)) a n=some (v,e,l)):
  b9 P H ⟨d,.build t c,ty,pos,af,g⟩ a v:=by
 unfold FO at h;split at h
 ·cases h
 rename_i i q;split at h
 ·rename_i y r;split at h
  ·rename_i cs s w x;cases h;obtain⟨k,m,_,o⟩:=(p _ _ q).st r;exact YT c k i.places a cs m o s (by simpa using w) x
  cases h
 cases h
theorem aay(k:dU P cb){e:Op}{a:List V}(h:xg P cb H e a n=some (v,m,l))(i:ch m):
  b9 P H ⟨d,e,ty,pos,af,g⟩ a v:=by
 unfold xg at h;split at h
 ·split at h
  ·cases h;exact aaj _ _
  cases h
 ·split at h
  ·cases h;exact XW _ _
  cases h
 ·split at h
  ·rename_i b v w c n;cases h;obtain⟨s,_⟩:=i;subst s;cases b
   ·exact TC _ _ _ _ _
   exact Us _ _ _ _ _
  cases h
 ·split at h
  ·split at h
   ·rename_i x;cases h;exact LK k x i
   exact VI k h i
  cases h
 ·split at h
  ·exact Yk h i
  cases h
 ·split at h
  ·split at h
   ·rename_i r p;cases h;exact Yu k p i
   split at h
   ·rename_i r p;cases h;exact Yo k p
   exact Yj k h i
  cases h
 ·split at h
  ·exact ZJ h
  cases h
 ·split at h
  ·exact WV k h i
  cases h
 ·rename_i C first q
  split at h
  ·rename_i f y;cases h
   have:first= #[]:=by simpa using y
   subst this;exact U' _ _ _
  cases h
 ·split at h
  ·exact VH k h i
  split at h
  ·exact UJ k h i
  ·exact WW k h i
  cases h
 ·split at h
  ·exact VK k h i
  cases h
 ·split at h
  ·exact Yr k h
  cases h
 ·split at h
  ·exact Yp k h i
  cases h
 ·split at h
  ·exact VJ k h i
  cases h
 ·split at h
  ·split at h
   ·rename_i A;cases h;exact WE _ _ _ _ A
   cases h
  cases h
 ·exact VM k h
 ·rename_i c;obtain⟨o,args,B⟩:=c;dsimp only at h;split at h
  ·have:=TW (d:=d) (ty:=ty) (pos:=pos) (af:=af) (g:=g) k h i;simpa using this
  cases h
 cases h
end
section
def kO(P:Program)(G:fc)(f:FuncId)(args:List V)(r:V):Prop:=i' P f/\Ed P G f args r
def iT(P:Program)(G:fc)(f:FuncId)(a:List E)(args:List V)(r:V)(c:List E):Prop:=
 i' P f/\JN P G f a args (ι:=Unit) (λ_=>True) (λ_=>r) λ_=>c
def fb(d:Option Tmp)(v:V):List (Nat×V):=match d with
 |some d=>[(d,v)]
 |none=>[]
def jU(a:Nat):Option Tmp->Bool
 |some d=>Nat.blt d a
 |none=>true
theorem gQ{K:Ctx}{d:Option Tmp}(h:jU K.nt d=true): ∀i,d=some i->Nat.blt i K.nt=true:=by intro i a;subst a;exact h
def iI:T->T
 | .fl=> .aE []
 |x=>x
variable {w:World}{X:Nat->Prop}{m:Nat}
theorem cX.xY{x:T}{v:Value}(h:cX w X x v):cX w X (iI x) v:=by
 cases h with
 |fl=>exact .fS _ _
 |bool b=>exact .bool b
 |int k n=>exact .int k n
 |str l=>exact .str l
 |fS a c=>exact .fS a c
 |aE e b m size c f p q i o r y=>exact .aE e b m size c f p q i o r y
 |hi=>exact .hi
 |gu=>exact .gu
 |nn=>exact .nn
 |err t v=>exact .err t v
theorem Zf{D:Map}{k:Nat}{c:TypeId}{gen n:Nat}{z:List T}(h:cG D w X k (.arr c gen n (List.replicate m z))):cG D w X k (.arr c gen n (List.replicate m (z.map iI))):=by
 refine⟨h.1,?_⟩;rcases h.2 with ⟨l,o⟩|⟨b,r,l,o,A,B,C⟩
 ·have:m=0:=by simpa using o
  subst this;exact .inl ⟨l,rfl⟩
 refine .inr ⟨b,r,l,o,by simpa using A,λp a=>?_,λi j p x u a e F=>?_⟩
 ·obtain⟨G,rfl⟩:=pL.1 a;rw[c5];exact B z (pL.2 ⟨G,rfl⟩)
 rw[s9] at a;split at a
 ·cases a;rw[ev] at e;cases q:z[j]? with
  |none=>rw[q] at e;simp at e
  |some y=>
   rw[q] at e;simp at e;subst e;exact(C i j z y u (by rw[s9,a1 ‹_›]) q F).xY
 cases a
def ll(a:Nat):Nat->List T->List (List T)
 |0,_=>[]
 |n+1,l=>l.take a::ll a n (l.drop a)
theorem zQ(a:Nat): ∀(n:Nat) (l:List T),l.length=n*a->(ll a n l).length=n/\(∀c,c∈ll a n l->c.length=a)/\(ll a n l).flatten=l
 |0,l,h=>by
  have:l=[]:=by simpa using h
  subst this;exact⟨rfl,λ_ h=>by simp[ll] at h,rfl⟩
 |n+1,l,h=>by
  rw[dn] at h;obtain⟨e,i,k⟩:=zQ a n (l.drop a) bQ;refine⟨by simp[ll,e],?_,by simp[ll,k]⟩;intro c b7;simp only[ll,List.mem_cons] at b7;rcases b7 with rfl|b7
  ·simp;omega
  exact i c b7
structure dM where
 P:Program
 G:fc
 cb:List (Nat×cj)
 nt:Nat
 da:Nat
 gM:Map
def tK(a:Nat):List Nat->Nat->Option Nat
 | [],_=>none
 |x::r,k=>bif Nat.beq x a then some k else tK a r (k+1)
theorem zX{i:Nat}: ∀{L:List Nat} {k m:Nat},tK i L k=some m->k<=m/\L[m-k]? =some i
 | [],_,_,h=>by cases h
 |x::r,k,m,h=>by
  simp only[tK] at h;cases a:Nat.beq x i with
  |true=>rw[a] at h;cases h;rw[cM a];exact⟨cO _,aW⟩
  |false=>
   rw[a] at h;obtain⟨e,c⟩:=zX (L:=r) (k:=k+1) h;refine⟨O,?_⟩;rw[show m-k=(m-(k+1))+1 by omega];simpa using c
mutual
def s0(L:List Nat):V->Option V
 | .ref id a=>match tK id L 0 with
  |some k=>some (.ref k a)
  |none=>none
 | .bc id gen size a c=>match tK id L 0 with
  |some k=>some (.bc k gen size a c)
  |none=>none
 | .fn f cs=>match sZ L cs with
  |some cs=>some (.fn f cs)
  |none=>none
 | .cB id gen size i a=>match tK id L 0 with
  |some k=>some (.cB k gen size i a)
  |none=>none
 | .t x=>some (.t x)
 | .aP x=>some (.aP x)
 | .agg cs=>match sZ L cs with
  |some cs=>some (.agg cs)
  |none=>none
 |_=>none
def sZ(L:List Nat):List V->Option (List V)
 | []=>some []
 |c::cs=>match s0 L c,sZ L cs with
  |some c,some cs=>some (c::cs)
  |_,_=>none
end
mutual
theorem Z9{L:List Nat}: ∀(v e:V),s0 L v=some e->e.dt L=v/\e.ok (eZ L.length)=true
 | .ref id n,e,h=>by
  simp only[s0] at h;split at h
  ·rename_i k o;cases h;obtain⟨_,a⟩:=zX o;simp only[Nat.sub_zero] at a;have c:=(bS.1 a).1;exact⟨by simp[V.dt,List.getD_eq_getElem?_getD,a],iV.2 c⟩
  cases h
 | .bc id gen size n q,e,h=>by
  simp only[s0] at h;split at h
  ·rename_i k o;cases h;obtain⟨_,a⟩:=zX o;simp only[Nat.sub_zero] at a;have c:=(bS.1 a).1;exact⟨by simp[V.dt,List.getD_eq_getElem?_getD,a],iV.2 c⟩
  cases h
 | .cB id gen size i n,e,h=>by
  simp only[s0] at h;split at h
  ·rename_i k o;cases h;obtain⟨_,a⟩:=zX o;simp only[Nat.sub_zero] at a;have c:=(bS.1 a).1;exact⟨by simp[V.dt,List.getD_eq_getElem?_getD,a],iV.2 c⟩
  cases h
 | .fn f cs,e,h=>by
  simp only[s0] at h;split at h
  ·rename_i l m;cases h;obtain⟨p,a⟩:=wG cs l m;exact⟨by simp[V.dt,p],by simpa[V.ok] using a⟩
  cases h
 | .agg cs,e,h=>by
  simp only[s0] at h;split at h
  ·rename_i l m;cases h;obtain⟨p,a⟩:=wG cs l m;exact⟨by simp[V.dt,p],by simpa[V.ok] using a⟩
  cases h
 | .t x,e,h=>by cases h;exact⟨rfl,rfl⟩
 | .aP x,e,h=>by cases h;exact⟨rfl,rfl⟩
 | .bL _,_,h| .c4,_,h=>by cases h
theorem wG{L:List Nat}: ∀(cs a:List V),sZ L cs=some a->iH L a=cs/\gr (eZ L.length) a=true
 | [],_,h=>by cases h;exact⟨rfl,rfl⟩
 |c::cs,a,h=>by
  simp only[sZ] at h;split at h
  ·rename_i i e k l;cases h;obtain⟨aK,a2⟩:=Z9 c i k;obtain⟨m,n⟩:=wG cs e l;exact⟨by simp[iH,aK,m],by simp[gr,a2,n]⟩
  cases h
end
def tJ(L:List Nat)(H:Nat->Option E):List Nat->Option (List E)
 | []=>some []
 |id::c=>match H id with
  |some (.cells cs)=>match sZ L cs,tJ L H c with
   |some cs,some e=>some (.cells cs::e)
   |_,_=>none
  |some (.arr ty gen size a)=>match tJ L H c with
   |some e=>some (.arr ty gen size a::e)
   |none=>none
  |some (.a8 h m gen a [])=>match tJ L H c with
   |some e=>some (.a8 h m gen a []::e)
   |none=>none
  |some (.a8 _ _ _ _ (_::_))=>none
  |none=>none
theorem zW{L:List Nat}{H:Nat->Option E}: ∀(a:List Nat) (gG:List E),tJ L H a=some gG->gG.length=a.length/\ ∀(k:Nat) (e:E),gG[k]? =some e-> ∃id,a[k]? =some id/\H id=some (e.dt L)/\e.ok (eZ L.length)=true
 | [],_,h=>by cases h;exact⟨rfl,λk e h=>by simp at h⟩
 |id::a,gG,h=>by
  simp only[tJ] at h;split at h
  ·rename_i cs hid;split at h
   ·rename_i r l w n;cases h;obtain⟨aK,a2⟩:=zW a l n;obtain⟨x,y⟩:=wG cs r w;refine⟨by simp[aK],λk e c=>?_⟩;cases k with
    |zero=>simp at c;subst c;exact⟨id,rfl,by rw[hid];simp only[E.dt,x],y⟩
    |succ k=>simp at c;obtain⟨i,o,p⟩:=a2 k e c;exact⟨i,by simpa using o,p⟩
   cases h
  ·rename_i ty gen size q hid;split at h
   ·rename_i l n;cases h;obtain⟨aK,a2⟩:=zW a l n;refine⟨by simp[aK],λk e c=>?_⟩;cases k with
    |zero=>simp at c;subst c;exact⟨id,rfl,hid,rfl⟩
    |succ k=>simp at c;obtain⟨i,o,p⟩:=a2 k e c;exact⟨i,by simpa using o,p⟩
   cases h
  ·rename_i A m gen q hid;split at h
   ·rename_i l n;cases h;obtain⟨aK,a2⟩:=zW a l n;refine⟨by simp[aK],λk e c=>?_⟩;cases k with
    |zero=>simp at c;subst c;exact⟨id,rfl,hid,rfl⟩
    |succ k=>simp at c;obtain⟨i,o,p⟩:=a2 k e c;exact⟨i,by simpa using o,p⟩
   cases h
  ·cases h
  cases h
def AV(a:Nat):List Nat->Bool
 | []=>true
 |x::l=>bif Nat.beq x a then false else AV a l
theorem LG{i:Nat}: ∀{l:List Nat},AV i l=true->i∉l
 | [],_,h=>by cases h
 |x::l,h,hm=>by
  simp only[AV] at h;cases a:Nat.beq x i with
  |true=>rw[a] at h;cases h
  |false=>
   rw[a] at h;rcases dP.1 hm with rfl|hm
   ·simp at a
   exact LG h hm
def A3:List Nat->Bool
 | []=>true
 |x::l=>AV x l&&A3 l
theorem zr: ∀{l:List Nat},A3 l=true->l.Nodup
 | [],_=>List.nodup_nil
 |x::l,h=>by simp only[A3,Bool.and_eq_true] at h;exact List.nodup_cons.2 ⟨LG h.1,zr h.2⟩
def Av(u:Nat->Bool):List Nat->Bool
 | []=>true
 |x::l=> !u x&&Av u l
theorem Ke{u:Nat->Bool}: ∀{l:List Nat},Av u l=true-> ∀id,id∈l->u id=false
 | [],_,_,h=>by cases h
 |x::l,h,id,hm=>by
  simp only[Av,Bool.and_eq_true,Bool.not_eq_true'] at h;rcases dP.1 hm with rfl|hm
  ·exact h.1
  exact Ke h.2 id hm
theorem Kw{u:Nat->Bool}{i:Nat}: ∀{l:List Nat},i∈l->dh u (l.map λk=>(k,true)) i=true
 |x::l,h=>by
  simp only[List.map_cons,dh];by_cases a:i∈l
  ·rw[Ay _ _ u _ ⟨true,eM.2 ⟨i,a,rfl⟩⟩];exact Kw a
  rcases dP.1 h with rfl|h
  ·rw[mm _ _ _ (λv c=>a (by obtain⟨y,m,e⟩:=eM.1 c;cases e;exact m)),bW]
  exact bB h a
theorem KD{R:Type}: ∀(L:List Nat),L.Nodup-> ∀(f:Nat->R) (a:List R) (g:Nat->R),a.length=L.length->(∀(k:Nat) x,a[k]? =some x->g k=x)->dh f (L.zip a)=k8 f L g
 | [],_,f,a,g,_,_=>by simp[dh,k8]
 |l::L,c,f,[],g,h,_=>by simp at h
 |l::L,c,f,x::a,g,h,n=>by
  simp only[List.nodup_cons] at c;simp only[List.zip_cons_cons,dh,k8];rw[KD L c.2 (aU f l x) a (λk=>g (k+1)) (by simpa using h) (λk y p=>n (k+1) y (by simpa using p)),n 0 x rfl];funext i;by_cases e:i=l
  ·subst e;rw[ng c.1,bW,bW]
  rw[bX _ _ _ _ e];by_cases m:i∈L
  ·obtain⟨k,o⟩:=kc.1 m;rw[od c.2 o,od c.2 o]
  rw[ng m,ng m,bX _ _ _ _ e]
abbrev iS:=Option (cQ×List df×List ct)
def tN(d:Option Tmp)(u:Nat->Bool)(v:V)(a:List ct):iS:=
 match a with
 | .nat k::a=>match u k,v.val with
  |false,true=>some (⟨fb d (.ref k 0),[(k,some (.cells v.cs))],[(k,true)]⟩,[],a)
  |_,_=>none
 |_=>none
def Gg(d:Option Tmp)(v:V)(a:List ct):iS:=
 match a with
 | .b true::a=>match (np v).val,ls (np v).cs with
  |true,some c=>some (⟨fb d (.aP c),[],[]⟩,[],a)
  |_,_=>none
 |_=>none
def P4:List ct->Bool
 | .b true::_=>true
 |_=>false
def FI(C:dM)(t:TypeId)(H:Nat->Option E)(a v:V)(o:List ct):iS:=
 match dy C.cb t with
 |none=>none
 |some i=>match a with
  | .ref id c=>match H id with
   |some (.cells cs)=>match v.val,ny v.cs,Nat.beq v.cs.length i.size,Nat.ble (c+i.size) cs.length with
    |true,true,true,true=>some (⟨[],[(id,some (.cells (mE cs c v.cs)))],[]⟩,[],o)
    |_,_,_,_=>none
   |_=>none
  | .cB id gen x k c=>match H id,ls (np v).cs,o with
   |some (.arr e l n m),some w,.row r:: .rows h::o=>match (np v).val,Nat.beq w.length i.size,Nat.ble (c+i.size) x with
    |true,true,true=>some (⟨[],[(id,some (.arr e l n h))],[]⟩,
      [.q l gen,.q n x,.p (m[k]? =some r),.p (h=m.set k (r.take c++w++r.drop (c+w.length)))],o)
    |_,_,_=>none
   |_,_,_=>none
  |_=>none
def tR(k a n:Nat):List (Nat×Nat×V)->List df
 | []=>[]
 |h::c=>bif Nat.ble a h.2.1&&Nat.blt h.2.1 (a+n) then .q h.1 k::tR k a n c else tR k a n c
def tS(k a n:Nat):List (Nat×Nat×V)->List df
 | []=>[]
 |h::c=>bif Nat.ble a h.2.1&&Nat.blt h.2.1 (a+n) then .p (h.1≠k)::tS k a n c else tS k a n c
def Fj(C:dM)(t:TypeId)(H:Nat->Option E)(a v:V)(w:List ct):iS:=
 match dy C.cb t,a,w with
 |some i,.cB id gen y k c,.row r::w=>match H id with
  |some (.a8 x m e h o)=>match v.val&&(ny v.cs&&(Nat.beq v.cs.length i.size&&(Nat.ble (c+i.size) r.length&&Nat.blt 0 i.size))),rD o c i.size with
   |true,some l=>some (⟨[],[(id,some (.a8 x m e h (p1 c v.cs o)))],[]⟩,.q e gen:: .q (aO x m).size y:: .p (h[k]? =some r)::(rL k l++tR k c i.size o),w)
   |_,_=>none
  |_=>none
 |some i,.cB id gen y k c,.int q:: .nat n:: .row r::w=>match H id with
  |some (.a8 x m e h o)=>match v.val&&(ny v.cs&&(Nat.beq v.cs.length i.size&&(Nat.ble (c+i.size) r.length&&Nat.blt 0 i.size))),rD ((o.drop q.toNat).take n) c i.size with
   |true,some l=>some (⟨[],[(id,some (.a8 x m e h (o.take q.toNat++(p1 c v.cs ((o.drop q.toNat).take n)++(o.drop q.toNat).drop n))))],[]⟩,
     .q e gen:: .q (aO x m).size y:: .p (h[k]? =some r)::(rL k l++(tR k c i.size ((o.drop q.toNat).take n)++(tS k c i.size (o.take q.toNat)++tS k c i.size ((o.drop q.toNat).drop n)))),w)
   |_,_=>none
  |_=>none
 |_,_,_=>none
def wK(z:List T):List (Nat×Nat)->Bool
 | []=>true
 |p::l=>(match z[p.1]? with|some .fl=>true|_=>false)&&wK z l
def F'(C:dM)(d:Option Tmp)(t:TypeId)(u:Nat->Bool)(v w:V)(c:List ct):iS:=
 match dy C.cb t with
 |none=>none
 |some i=>match i.u with
  | .slice e=>match dy C.cb e with
   |none=>none
   |some j=>match v,w,c,ls (gP j.z).cs with
    | .t (.int .i64 n),.t (.int .i64 m),.nat k:: .rows R::c,some a=>match u k,(gP j.z).val,Nat.beq a.length j.size,Nat.blt 0 j.size&&Nat.ble j.bytes 200000 with
     |false,true,true,true=>some (⟨fb d (.bc k 1 j.size 0 R.length),[(k,some (.arr e 1 j.size R))],[(k,true)]⟩,[.q n.toNat m.toNat,.p (mk n (a.map iI)=some R),.p (0<=m)],c)
     |_,_,_,_=>none
    | .t (.int .i64 n),.t (.int .i64 m),.nat k:: .dS _ h q:: .rows R::c,some a=>match u k,(gP j.z).val&&wK a (aO h q).bm,Nat.beq a.length j.size,Nat.blt 0 j.size&&Nat.ble j.bytes 200000 with
     |false,true,true,true=>some (⟨fb d (.bc k 1 j.size 0 R.length),[(k,some (.a8 h q 1 R []))],[(k,true)]⟩,[.q (aO h q).ty e,.q (aO h q).size j.size,.q n.toNat m.toNat,.p (mk n (a.map iI)=some R),.p (0<=m)],c)
     |_,_,_,_=>none
    |_,_,_,_=>none
  |_=>none
def Fl(C:dM)(d:Option Tmp)(t x:TypeId)(H:Nat->Option E)(v w:V)(m:List ct):iS:=
 match dy C.cb t with
 |none=>none
 |some i=>match i.u with
  | .slice e=>match dy C.cb e with
   |none=>none
   |some j=>match v,np w,m with
    | .bc k gen size n o,.t (.aE l),.rows R::m=>match H k with
     |some (.arr r a c h)=>match Nat.beq n 0,Nat.beq j.z.cells.size j.size&&(Nat.blt 0 j.size&&Nat.ble j.bytes 140000),Nat.beq r e&&Nat.beq x t with
      |true,true,true=>some (⟨fb d (.bc k (a+1) size 0 R.length),[(k,some (.arr r (a+1) c R))],[]⟩,
        [.q a gen,.q c size,.q size j.size,.q o h.length,.p (app h l=some R),.p (Rows j.size h),.p (Rows j.size l)],m)
      |_,_,_=>none
     |_=>none
    |_,_,_=>none
  |_=>none
def EY(C:dM)(d:Option Tmp)(t B:TypeId)(H:Nat->Option E)(v w:V)(x:List ct):iS:=
 match dy C.cb t with
 |none=>none
 |some i=>match i.u with
  | .slice e=>match dy C.cb e with
   |none=>none
   |some j=>match v,w,x with
    | .bc k gen size o l,.bc eg I L D y,.rows R::x=>match H k,H eg with
     |some (.a8 A m c a []),some (.a8 F W G (Q::n) r)=>match Nat.beq o 0&&Nat.beq D 0,Nat.beq j.z.cells.size j.size&&(Nat.blt 0 j.size&&Nat.ble j.bytes 140000),Nat.beq B t&&(wz (aO A m) (n.length+1) r&&tw r) with
      |true,true,true=>some (⟨fb d (.bc k (c+1) size 0 R.length),[(k,some (.a8 A m (c+1) R (hP a.length r)))],[]⟩,
        [.q c gen,.q G I,.q L size,.q size j.size,.q (aO A m).size size,.q (aO A m).ty e,.q y (n.length+1),.q l a.length,.p (aO F W=aO A m),.p (app a (Q::n)=some R),.p (Rows j.size a),.p (Rows j.size (Q::n))],x)
      |_,_,_=>none
     |some (.arr U c h a),some _=>match Nat.beq eg k&&Nat.beq o 0,Nat.beq U e&&(Nat.beq B t&&Nat.blt 0 j.size) with
      |true,true=>some (⟨fb d (.bc k gen size 0 (l+y)),[(k,some (.arr U c h R))],[]⟩,
        [.q c gen,.q I gen,.q h size,.q L size,.q j.size size,.p (l+y<=a.length),.p (D+y<=a.length),.p (R=a.take l++(a.drop D).take y++a.drop (l+y))],x)
      |_,_=>none
     |_,_=>none
    | .bc k gen size o l,.t (.aE []),.int 0::x=>match H k with
     |some (.arr _ c h _)=>match Nat.beq o 0&&Nat.blt 0 j.size,Nat.beq B t with
      |true,true=>some (⟨fb d (.bc k gen size 0 l),[],[]⟩,[.q c gen,.q h size,.q j.size size],x)
      |_,_=>none
     |_=>none
    |_,_,_=>none
  |_=>none
def vS(d:dQ):Nat->List V->Option (List T×List (Nat×Nat×V))
 |_,[]=>some ([],[])
 |j,v::c=>match vS d (j+1) c with
  |none=>none
  |some (r,a)=>match d.ei j with
   |some _=>bif v.one then some (.aE []::r,(0,j,v)::a) else none
   |none=>match yp v with
    |some x=>some (x::r,a)
    |none=>none
def p0:Nat->List V->List (Nat×Nat×V)
 |_,[]=>[]
 |i,v::vs=>(i,0,v)::p0 (i+1) vs
def Ga(C:dM)(d:Option Tmp)(t:TypeId)(n:Nat)(l:List Nat)(u:Nat->Bool)(a:List V)(h:List ct):iS:=
 match dy C.cb t with
 |none=>none
 |some i=>match i.u with
  | .slice e=>match dy C.cb e with
   |none=>none
   |some j=>match n,h with
    |1,.lt k c m::h=>match kH (λi=>some (i*j.size,j.size)) (List.replicate (1*j.size) .c4) (l.zip (ua ((aO c m).ei 0) a)) with
     |none=>none
     |some cs=>match vS (aO c m) 0 cs with
      |none=>none
      |some (r,o)=>match u k,Nat.beq cs.length j.size&&Nat.beq (aO c m).size j.size,Nat.beq l.length a.length&&Nat.beq (aO c m).ty e,Nat.ble (1*j.size) 16777216,Nat.blt 0 j.size with
       |false,true,true,true,true=>some (⟨fb d (.bc k 1 j.size 0 1),[(k,some (.a8 c m 1 [r] o))],[(k,true)]⟩,[],h)
       |_,_,_,_,_=>none
    |n,.lt k c m::h=>match kH (λi=>some (i*j.size,j.size)) (List.replicate (n*j.size) .c4) (l.zip (gJ a)) with
     |none=>none
     |some cs=>match u k,Nat.beq j.size 1&&(Nat.beq cs.length n&&ny cs),Nat.beq l.length a.length&&(Nat.beq (aO c m).ty e&&Nat.beq (aO c m).size 1),Nat.ble (n*j.size) 16777216,Nat.blt 0 n with
      |false,true,true,true,true=>some (⟨fb d (.bc k 1 1 0 n),[(k,some (.a8 c m 1 (List.replicate n [.aE []]) (p0 0 cs)))],[(k,true)]⟩,[],h)
      |_,_,_,_,_=>none
    |_,_=>none
  |_=>none
def GF(C:dM)(d:Option Tmp)(t:TypeId)(n:Nat)(c:List Nat)(u:Nat->Bool)(a:List V)(h:List ct):iS:=
 match dy C.cb t with
 |none=>none
 |some i=>match i.u with
  | .slice e=>match dy C.cb e with
   |none=>none
   |some j=>match n,c,h with
    |0,[],.nat k::h=>match u k with
     |false=>some (⟨fb d (.bc k 1 j.size 0 0),[(k,some (.arr e 1 j.size []))],[(k,true)]⟩,[],h)
     |true=>none
    |n,c,.int 1:: .nat k::h=>match kH (λi=>some (i*j.size,j.size)) (List.replicate (n*j.size) .c4) (c.zip (gJ a)) with
     |none=>none
     |some cs=>match ls cs with
      |none=>none
      |some l=>match u k,Nat.beq l.length (n*j.size),Nat.beq c.length a.length,Nat.ble (n*j.size) 16777216,Nat.blt 0 j.size with
       |false,true,true,true,true=>some (⟨fb d (.bc k 1 j.size 0 (ll j.size n l).length),[(k,some (.arr e 1 j.size (ll j.size n l)))],[(k,true)]⟩,[],h)
       |_,_,_,_,_=>none
    |n,c,.int 2:: .rows R::h=>match kH (λi=>some (i*j.size,j.size)) (List.replicate (n*j.size) .c4) (c.zip (gJ a)) with
     |none=>none
     |some cs=>match ls cs with
      |none=>none
      |some l=>match Nat.beq l.length (n*j.size),Nat.beq c.length a.length,Nat.ble (n*j.size) 16777216 with
       |true,true,true=>some (⟨fb d (.t (.aE R)),[],[]⟩,[.p (ll j.size n l=R)],h)
       |_,_,_=>none
    |n,c,.int 0::h=>match kH (λi=>some (i*j.size,j.size)) (List.replicate (n*j.size) .c4) (c.zip (gJ a)) with
     |none=>none
     |some cs=>match ls cs with
      |none=>none
      |some l=>match Nat.beq l.length (n*j.size),Nat.beq c.length a.length,Nat.ble (n*j.size) 16777216 with
       |true,true,true=>some (⟨fb d (.t (.aE (ll j.size n l))),[],[]⟩,[],h)
       |_,_,_=>none
    |_,_,_=>none
  |_=>none
mutual
def rH:V->Bool
 | .t (.int _ _)| .t (.bool _)| .t (.str _)=>true
 | .agg cs=>tM cs
 | .bL cs=>tM cs
 |_=>false
def tM:List V->Bool
 | []=>true
 |c::cs=>rH c&&tM cs
end
def w7(H:Nat->Option E):V->Option (T×List df)
 | .bc k gen size h i=>match H k with
  |some (.arr _ c e a)=>some (.aE a,[.q gen c,.q size e,.q h 0,.q i a.length])
  |some (.a8 l m c a [])=>some (.aE a,[.q gen c,.q size (aO l m).size,.q h 0,.q i a.length])
  |_=>none
 | .t x=>some (iI x,[])
 |_=>none
def Bc(H:Nat->Option E):List V->Option (List T×List df)
 | []=>some ([],[])
 |v::a=>match w7 H v,Bc H a with
  |some (x,c),some (e,h)=>some (x::e,c++h)
  |_,_=>none
mutual
def mW(H:Nat->Option E):V->Option (V×List df)
 | .bc k gen size c h=>match w7 H (.bc k gen size c h) with
  |some (x,a)=>some (.t x,a)
  |none=>none
 | .t x=>some (.t (iI x),[])
 | .aP cs=>some (.aP cs,[])
 | .ref id c=>match H id with
  |some (.cells cs)=>match Bc H cs with
   |some (eF,a)=>some (.aP (eF.drop c),a)
   |none=>none
  |_=>none
 | .agg cs=>match oT H cs with
  |some (e,a)=>some (.agg e,a)
  |none=>none
 | .bL cs=>match oT H cs with
  |some (e,a)=>some (.bL e,a)
  |none=>none
 | .fn f cs=>match oT H cs with
  |some (e,a)=>some (.fn f e,a)
  |none=>none
 | .cB _ _ _ _ _=>none
 | .c4=>none
def oT(H:Nat->Option E):List V->Option (List V×List df)
 | []=>some ([],[])
 |v::a=>match mW H v,oT H a with
  |some (x,c),some (e,h)=>some (x::e,c++h)
  |_,_=>none
end
def OK:List ct->List ct
 | .nat _::hs=>OK hs
 |hs=>hs
def GL(C:dM)(d:Option Tmp)(H:Nat->Option E)(a:List V)(e:List ct):iS:=
 match a with
 | .fn f c::args=>match OK (e.drop 1) with
  | .v r::e=>match oT H (args++c),rH r with
   |some (h,i),true=>some (⟨fb d r,[],[]⟩,i++[.p (kO C.P C.G f h r)],e)
   |_,_=>none
  |_=>none
 |_=>none
def Gf(C:dM)(d:Option Tmp)(c:List V)(e:List ct):iS:=
 match c with
 | .fn f a::args=>match e with
  | .v r::e=>match gr gp (gJ (args++a)) with
   |true=>some (⟨fb d r,[],[]⟩,[.p (kO C.P C.G f (gJ (args++a)) r)],e)
   |false=>none
  | .nat _:: .v r::e=>some (⟨fb d r,[],[]⟩,[.p (gr gp (gJ (args++a))=true),.p (kO C.P C.G f (gJ (args++a)) r)],e)
  |_=>none
 |_=>none
def GR(C:dM)(d:Option Tmp)(h:List V)(H:Nat->Option E)(u:Nat->Bool)(l:List ct):iS:=
 match h with
 | .fn f i::args=>match l with
  | .dI L a r out::l=>match sZ L (gJ (args++i)),tJ L H L,A3 (L++a)&&Av u a&&Nat.beq out.length (L++a).length with
   |some c,some gG,true=>some (⟨fb d (r.dt (L++a)),(L++a).zip (out.map λe=>some (e.dt (L++a))),(L++a).map λk=>(k,true)⟩,[.p (iT C.P C.G f gG c r out)],l)
   |_,_,_=>none
  |_=>none
 |_=>none
def FN(C:dM)(t:TypeId)(H:Nat->Option E)(v:V)(n:List ct):iS:=
 match dy C.cb t with
 |none=>none
 |some i=>match i.u with
  | .slice e=>match dy C.cb e with
   |none=>none
   |some j=>match v,n,ls (gP j.z).cs with
    | .bc k gen size l m,.rows R::n,some o=>match H k,(gP j.z).val with
     |some (.arr r h a c),true=>some (⟨[],[(k,some (.arr r h a R))],[]⟩,[.q h gen,.q a size,.q o.length size,.p (l+m<=c.length/\R=c.take l++List.replicate m (o.map iI)++c.drop (l+m))],n)
     |_,_=>none
    |_,_,_=>none
  |_=>none
def Gc(C:dM)(d:Option Tmp)(t:TypeId)(H:Nat->Option E)(v w:V)(r:List ct):iS:=
 match dy C.cb t with
 |none=>none
 |some i=>match i.u with
  | .slice e=>match dy C.cb e with
   |none=>none
   |some j=>match v,np w,r with
    | .bc k gen size n o,.t (.aE a),.rows R:: .nat m::r=>match H k,Nat.blt 0 j.size with
     |some (.arr x l c h),true=>some (⟨fb d (.t (.int .i64 m)),[(k,some (.arr x l c R))],[]⟩,
       [.q l gen,.q c size,.q size j.size,.q m (Nat.min a.length o),.p (Rows j.size a),.p (n+o<=h.length/\R=h.take n++a.take m++h.drop (n+m))],r)
     |_,_=>none
    |_,_,_=>none
  |_=>none
def abF:List ct->Bool
 | .dI _ _ _ _::_=>true
 |_=>false
def G4(C:dM)(o:Oper)(e:List V)(H:Nat->Option E)(u:Nat->Bool)(h:List ct):iS:=
 match jU C.nt o.dst with
 |false=>none
 |true=>match o.op with
  | .box _ _=>match e with
   | [v]=>match P4 h with
    |true=>Gg o.dst v h
    |false=>tN o.dst u v h
   |_=>none
  | .alloc t=>match dy C.cb t with
   |some i=>tN o.dst u (gP i.z) h
   |none=>none
  | .store t _ _=>match o.dst,e with
   |none,[a,v]=>match FI C t H a v h with
    |some r=>some r
    |none=>Fj C t H a v h
   |_,_=>none
  | .makeSlice t _ _=>match e with
   | [v,w]=>F' C o.dst t u v w h
   |_=>none
  | .buildSlice t n l=>match GF C o.dst t n (l.toList.map (·.1)) u e h with
   |some r=>some r
   |none=>Ga C o.dst t n (l.toList.map (·.1)) u e h
  | .call c=>match c.callee with
   | .value _=>match abF h with
    |true=>GR C o.dst e H u h
    |false=>match P4 h with
     |true=>GL C o.dst H e h
     |false=>Gf C o.dst e h
   | .builtin .append=>match c.args.toList,c.argTypes.toList,e with
    | [_,_],[t,m],[v,w]=>match Fl C o.dst t m H v w h with
     |some r=>some r
     |none=>EY C o.dst t m H v w h
    |_,_,_=>none
   | .builtin .clear=>match o.dst,c.args.toList,c.argTypes.toList,e with
    |none,[_],[t],[v]=>FN C t H v h
    |_,_,_,_=>none
   | .builtin .copy=>match c.args.toList,c.argTypes.toList,e with
    | [_,_],[t,_],[v,w]=>Gc C o.dst t H v w h
    |_,_,_=>none
   | .builtin _=>match xg C.P C.cb H o.op e h with
    |some (v,k,h)=>some (⟨fb o.dst v,[],[]⟩,k,h)
    |none=>none
   |_=>none
  |_=>match xg C.P C.cb H o.op e h with
   |some (v,k,h)=>some (⟨fb o.dst v,[],[]⟩,k,h)
   |none=>none
theorem Zg{z:Value}{a:List T}(k:(gP z).val=true)(l:ls (gP z).cs=some a):z.cells.size=a.length/\ ∀(w:World) (X:Nat->Prop) (j:Nat) (u:Value) (x:T),z.cells[j]? =some u->(a.map iI)[j]? =some x->cX w X x u:=by
 have h:=fun(w:World) (X:Nat->Prop)=>(yo (⟨λ_=>none,λ_ _=>False⟩:Map) w X z).cells k;have i:=ov l;refine⟨by rw[(h default λ_=>False).1,i,c5],λw X j u x m c=>?_⟩;rw[ev] at c;cases e:a[j]? with
 |none=>rw[e] at c;cases c
 |some y=>
  rw[e] at c;simp only[Option.map_some,Option.some.injEq] at c;subst c
  have:=(h w X).2 j (.t y) u (by rw[i,ev,e];rfl) m;cases this with
  |t _ _ n=>exact n.xY
section steps
variable {K:Ctx} {s:S} {d:Option Tmp} {ty:TypeId} {pos:String} {af:Array Edge} {g:Option (Nat×Bool)}
variable {t:TypeId} {u:TypeDesc} {z:Value} {size bytes gen:Nat}
theorem Sw(a:Array Value)(n i j:Nat)(h:i<n)(e:j<a.size):(Builtin.zeroCells a n).toList[i*a.size+j]? =a[j]? :=by
 have c:i*a.size+j<n*a.size:=by
  have:(i+1)*a.size<=n*a.size:=dz _ h;rw[dn] at this;omega
 have k:(i*a.size+j)%a.size=j:=by rw[Nat.mul_comm,Nat.mul_add_mod];exact Nat.mod_eq_of_lt e
 simp[Builtin.zeroCells,c,k,e]
theorem ZB(x:Operand)(U c h:Nat)(e e':TypeId)(rows:List (List T))(A:List T)(hx:s.get x= .bc U gen size c h)(hH:s.H U=some (.arr e' gen size rows))(e4:K.P.underlying t=some (.slice e)){sz:Nat}(he:cd K.P e u z sz bytes)
  (bI:(gP z).val=true) (eJ:ls (gP z).cs=some A) (G:A.length=size) (cD:c+h<=rows.length):
  dT K ⟨none,.call {callee:= .builtin .clear,args:= #[x],argTypes:= #[t]},ty,pos,af,g⟩ s {s with H:=aU s.H U (some (.arr e' gen size (rows.take c++List.replicate h (A.map iI)++rows.drop (c+h))))}:=by
 intro β a w next Q b7 W
 have I:=b7.get x;rw[hx] at I;have Y:=(b7.heap U _ hH).2;obtain⟨q,E⟩:=je Y;obtain⟨qs,M⟩:=Zg bI eJ;unfold Oper.wp;cases h with
 |zero=>
  obtain⟨iy,cap,o⟩: ∃iy cap,a.eval x= .slice iy 0 cap:=by
   rcases fa I E with ⟨cap,b,n,hn,o,_⟩|⟨_,_,_,o⟩
   ·exact⟨_,cap,o⟩
   exact⟨none,0,o⟩
  have y:(execOp a.eval ⟨none,.call {callee:= .builtin .clear,args:= #[x],argTypes:= #[t]},ty,pos,af,g⟩).run K.P w= .ok (.value (.tuple #[])) w:=by
   cases iy<;>simp[execOp,resolve,invoke,builtin,o,Builtin.clear_,run_underlying e4]
  rw[y]
  have:rows.take c++List.replicate 0 (A.map iI)++rows.drop (c+0)=rows:=aW
  refine W β _ _ ?_;rw[this];exact b7.yk U _ hH
 |succ h=>
  rcases fa I E with ⟨cap,b,n,hn,o,jx,hw,hs,cH,o2,hm⟩|⟨_,_,h0,_⟩
  ·subst jx;rcases Y.2 with ⟨N,_⟩|⟨cu,C,N,h2,h3,h4,h5⟩
   ·rw[E] at N;cases N
   rw[E] at N;cases N;have D:z.cells.size=size:=by rw[qs,G]
   have p:(Builtin.zeroCells z.cells (h+1)).toList.length=(h+1)*size:=by rw[lU,size_zeroCells,D]
   have nk:c*size+(h+1)*size<=C.size:=by
    have:(c+(h+1))*size<=rows.length*size:=dz _ cD;rw[dn] at this;omega
   have r: ∀(i j:Nat) (u:Value),i<h+1->j<size->(Builtin.zeroCells z.cells (h+1)).toList[i*size+j]? =some u->z.cells[j]? =some u:=by
    intro i j u aI F hu;rw[<-D] at F hu
    rwa [Sw _ _ _ _ aI F] at hu
   have V: ∀v∈(Builtin.zeroCells z.cells (h+1)).toList,v.oneCell'=true:=by
    intro v adS;obtain⟨k,W⟩:=kc.1 adS;have L:=(bS.1 W).1;rw[p] at L;have hp:0<size:=by
     rcases Nat.eq_zero_or_pos size with e0|e0
     ·rw[e0] at L;omega
     exact e0
    have hdiv:k / size<h+1:=(vq hp).2 L;have PJ:k%size<size:=Nat.mod_lt _ hp;have o1:(Builtin.zeroCells z.cells (h+1)).toList[k / size*size+k%size]? =some v:=by rw[Nat.div_add_mod'];exact W
    have h9:=r _ _ _ hdiv PJ o1
    have:(A.map iI)[k%size]? =some (iI A[k%size]):=by rw[ev,bs O];rfl
    exact(bn.t (β:=β) _ _ (M w (λ_=>False) _ _ _ h9 this)).iK rfl
   have o6:=run_storeCells_at K.P b (c*size) e' (Builtin.zeroCells z.cells (h+1)).toList 0 C w h2 (by rw[p];omega) V;simp only[Nat.add_zero] at o6;have y:(execOp a.eval ⟨none,.call {callee:= .builtin .clear,args:= #[x],argTypes:= #[t]},ty,pos,af,g⟩).run K.P w= .ok (.value (.tuple #[])) (w.setRow b (C.toList.take (c*size)++(Builtin.zeroCells z.cells (h+1)).toList++C.toList.drop (c*size+(Builtin.zeroCells z.cells (h+1)).toList.length)).toArray):=by
    simp[execOp,resolve,invoke,builtin,o,Builtin.clear_,run_underlying e4,he.sR,o6]
   rw[y];refine W β _ _ (MR b7 U b e' rows _ C _ hH E h2 (by simp[p];omega) ?_ ?_ ?_)
   ·have:(rows.take c++List.replicate (h+1) (A.map iI)++rows.drop (c+(h+1))).length=rows.length:=bQ
    rw[this];exact h3
   ·intro m l;rw[dZ,dZ] at l;rcases l with (l|l)|l
    ·exact h4 m (ga l)
    ·rw[(pL.1 l).2,c5];exact G
    exact h4 m (e7 l)
   intro i j m ke lT aK a2 a3;have a3:(C.toList.take (c*size)++(Builtin.zeroCells z.cells (h+1)).toList++C.toList.drop (c*size+(Builtin.zeroCells z.cells (h+1)).toList.length))[i*size+j]? =some lT:=by simpa using a3
   rw[p] at a3;have B:(C.toList.take (c*size)).length=c*size:=bQ
   by_cases c1:i<c
   ·rw[ih,gL bQ,fA,a1 c1] at aK;have F:j<size:=by rw[<-h4 m (bE aK)];exact(bS.1 a2).1
    have hlt:i*size+j<c*size:=mv c1 F;rw[ih,gL O,fA,a1 hlt] at a3;exact .inl ⟨i,m,aK,a2,by simpa using a3⟩
   by_cases c2:i<c+(h+1)
   ·rw[gL bQ,gX bQ] at aK;have l:m=A.map iI:=by
     have:=bE aK;exact(pL.1 this).2
    subst l;have F:j<size:=by rw[<-G,<-c5 (f:=iI)];exact(bS.1 a2).1
    have e1:i*size+j=c*size+((i-c)*size+j):=by rw[tc];have:=dz size (O:c<=i);omega
    have hlt:(i-c)*size+j<(h+1)*size:=mv O F;rw[e1,gL (by rw[dD,B,p];omega),gX O,B,Nat.add_sub_cancel_left] at a3;exact .inr λw X=>M w X j _ _ (r _ _ _ O F a3) a2
   have R:(rows.take c++List.replicate (h+1) (A.map iI)).length=c+(h+1):=bQ
   rw[gX O,R,fT,show c+(h+1)+(i-(c+(h+1)))=i by omega] at aK;have F:j<size:=by rw[<-h4 m (bE aK)];exact(bS.1 a2).1
   have iD:c*size+(h+1)*size<=i*size+j:=by
    have:=dz size (O:c+(h+1)<=i);rw[dn] at this;omega
   rw[gX (by rw[dD,B,p];omega),dD,B,p,fT,show c*size+(h+1)*size+(i*size+j-(c*size+(h+1)*size))=i*size+j by omega] at a3;exact .inl ⟨i,m,aK,a2,by simpa using a3⟩
  omega
theorem VZ(k h l c:Nat)(x y:Operand)(e:TypeId)(rows:List (List T))(cv: ∀i,d=some i->Nat.blt i K.nt=true)(hx:s.get x= .bc k gen size 0 h)(hy:s.get y= .bc k gen size l c)(hH:s.H k=some (.arr e gen size rows))
  (e4:K.P.underlying t=some (.slice e)) (he:cd K.P e u z size bytes) (hp:0<size) (h1:h+c<=rows.length) (h2:l+c<=rows.length):
  dT K ⟨d,.call {callee:= .builtin .append,args:= #[x,y],argTypes:= #[t,t]},ty,pos,af,g⟩ s
   (({s with H:=aU s.H k (some (.arr e gen size (rows.take h++(rows.drop l).take c++rows.drop (h+c))))}:S).put d (.bc k gen size 0 (h+c))):=by
 intro β a w next Q b7 hkk
 have X:=b7.get x;rw[hx] at X;have lJ:=b7.get y;rw[hy] at lJ;have hF:=(b7.heap k _ hH).2;have iC:=hF.1;obtain⟨q,Y⟩:=je hF;obtain⟨_,i,mh,hi2,qp,ux⟩:=id he;unfold Oper.wp;cases c with
 |zero=>
  obtain⟨iy,cap,f⟩: ∃iy cap,a.eval y= .slice iy 0 cap:=by
   rcases fa lJ Y with ⟨cap,b,n,hn,p,_⟩|⟨_,_,_,p⟩
   ·exact⟨_,cap,p⟩
   exact⟨none,0,p⟩
  have adG:rows.take h++(rows.drop l).take 0++rows.drop (h+0)=rows:=aW
  have G:(execOp a.eval ⟨d,.call {callee:= .builtin .append,args:= #[x,y],argTypes:= #[t,t]},ty,pos,af,g⟩).run K.P w= .ok (.value (a.eval x)) w:=by
   rcases fa X Y with ⟨xa,b,n,hn,p,_,_,_,_,cD,_⟩|⟨_,_,_,p⟩
   ·cases iy<;>simp[execOp,resolve,invoke,builtin,p,f,Builtin.append_,run_underlying e4,sizeOf,typeInfo,mh,Builtin.lenOf,Builtin.firstCells,cD,storeCells,loadCells,loadCellsFrom]
   cases iy<;>simp[execOp,resolve,invoke,builtin,p,f,Builtin.append_,run_underlying e4,sizeOf,typeInfo,mh,Builtin.lenOf,Builtin.firstCells,loadCells,loadCellsFrom]
  rw[G];refine hkk β _ w ?_;have kW:aU s.H k (some (E.arr e gen size rows))=s.H:=by
   funext j;by_cases D:j=k
   ·subst D;rw[bW,hH]
   rw[bX _ _ _ _ D]
  rw[adG,kW];exact b7.put d cv X
 |succ c=>
  rcases fa lJ Y with ⟨abS,b,n,hn,f,jx,hw,hs,cH,o2,hm⟩|⟨_,_,h0,_⟩
  ·subst jx;rcases fa X Y with ⟨A,gf,Ig,afz,p,kv,xB,M,si,age,BN⟩|⟨h0,_⟩
   ·cases kv;rcases hF.2 with ⟨g1,_⟩|⟨cu,B,g1,g2,g3,g4,g5⟩
    ·rw[Y] at g1;cases g1
    rw[Y] at g1;cases g1;have PV:B.size=Ig:=by
     unfold World.shape? at M;rw[g2] at M;simp at M;exact M.2
    obtain⟨C,PX⟩: ∃C,C=(B.toList.drop (l*size)).take ((c+1)*size):=⟨_,rfl⟩
    have hle:(l+(c+1))*size<=B.size:=gw (dz _ h2) g3;rw[dn] at hle;have F:C.length=(c+1)*size:=by rw[PX];simp;omega
    have I: ∀j v,C[j]? =some v->B[l*size+j]? =some v/\j<(c+1)*size:=λj v bI=>by
     have D:=(bS.1 bI).1;rw[F] at D;rw[PX,fA,a1 D,fT] at bI;exact⟨by simpa using bI,D⟩
    have N: ∀r,r<rows.length-> ∃m,rows[r]? =some m/\m.length=size:=λr xt=>⟨_,bs xt,g4 _ (fz xt)⟩
    have Ho: ∀j v,C[j]? =some v->w.cell? ((⟨b,l*size,none⟩:Addr).add j)=some v:=λj v bI=>by
     rw[iZ];simp only[World.cell?,g2];exact(I j v bI).1
    have nl: ∀v,v∈C->v.oneCell'=true:=λv bI=>by
     obtain⟨j,D⟩:=kc.1 bI;obtain⟨h3,h4⟩:=I j v D;have PJ:j%size<size:=Nat.mod_lt _ hp;have hdiv:j / size<c+1:=(vq hp).2 h4;obtain⟨m,HM,BR⟩:=N (l+j / size) O;have acO:(l+j / size)*size+j%size=l*size+j:=by rw[dn,pH,Nat.div_add_mod']
     exact(g5 (l+j / size) (j%size) m m[j%size] v HM (bs O) (by rw[acO];exact h3)).iK
    have nk:h*size+C.length<=B.size:=by
     rw[F,<-dn];exact gw (dz _ h1) g3
    have L:h+(c+1)<=A:=by
     have:(h+(c+1))*size<=A*size:=by
      rw[dr] at si;rw[si,<-PV];exact gw (dz _ h1) g3
     exact Nat.le_of_mul_le_mul_right this hp
    have R:=run_append_room (P:=K.P) w t ty e i e4 mh b h A B g2 ⟨b,l*size,none⟩ (c+1) abS C (by rw[qp];exact F) Ho nl L (by rw[qp];exact nk);rw[qp] at R;have G:(execOp a.eval ⟨d,.call {callee:= .builtin .append,args:= #[x,y],argTypes:= #[t,t]},ty,pos,af,g⟩).run K.P w= .ok (.value (.slice (some ⟨b,0,none⟩) (h+(c+1)) A)) (w.setRow b (B.toList.take (h*size)++C++B.toList.drop (h*size+C.length)).toArray):=by
     rw[f'] at p;simp[execOp,resolve,invoke,builtin,p,f,R]
    rw[G];have V:(B.toList.take (h*size)).length=h*size:=bQ
    have uy:(B.toList.take (h*size)++C++B.toList.drop (h*size+C.length)).toArray.size=B.size:=bQ
    have U:(rows.take h).length=h:=by rw[cL];omega
    have W:((rows.drop l).take (c+1)).length=c+1:=by rw[cL,fq];omega
    have hrel:=MR b7 k b e rows (rows.take h++(rows.drop l).take (c+1)++rows.drop (h+(c+1))) B _ hH Y g2 uy ?_ ?_ ?_
    ·refine hkk β _ _ (hrel.put d cv ?_);have h':bn β (w.setRow b (B.toList.take (h*size)++C++B.toList.drop (h*size+C.length)).toArray) (own K β (aU s.H k (some (.arr e gen size (rows.take h++(rows.drop l).take (c+1)++rows.drop (h+(c+1))))))) (.bc k gen size 0 (h+(c+1))) (.slice (some ⟨b,0*size,none⟩) (h+(c+1)) A):=by
      refine .bc k gen size 0 _ A b Ig e iC Y (by simpa using xB) ?_ si L BN;unfold World.shape?;rw[setRow_heap _ _ _ _ _ _ g2];simp only[uy,PV]
     rw[f'] at h';exact h'
    ·rw[dD,dD,U,W,fq]
     have:h+(c+1)+(rows.length-(h+(c+1)))=rows.length:=O
     rw[this];exact g3
    ·intro m o;rw[dZ,dZ] at o;rcases o with (o|o)|o
     ·exact g4 m (ga o)
     ·exact g4 m (e7 (ga o))
     exact g4 m (e7 o)
    intro r j m ke lT aK a2 a3;have a3:(B.toList.take (h*size)++C++B.toList.drop (h*size+C.length))[r*size+j]? =some lT:=by simpa using a3
    refine .inl ?_;by_cases c1:r<h
    ·rw[ih,gL O,fA,a1 c1] at aK;have D:j<size:=by rw[<-g4 m (bE aK)];exact(bS.1 a2).1
     have hlt:r*size+j<h*size:=mv c1 D;rw[ih,gL O,fA,a1 hlt] at a3;exact⟨r,m,aK,a2,by simpa using a3⟩
    by_cases c2:r<h+(c+1)
    ·rw[gL (by rw[dD];omega),gX O,U,fA,a1 O,fT] at aK;have D:j<size:=by rw[<-g4 m (bE aK)];exact(bS.1 a2).1
     have e1:r*size+j=h*size+((r-h)*size+j):=by rw[tc];have:=dz size (O:h<=r);omega
     have hlt:(r-h)*size+j<(c+1)*size:=mv O D;rw[e1,gL (by rw[dD,V,F];omega),gX O,V,Nat.add_sub_cancel_left] at a3;have h9:=(I _ _ a3).1;exact⟨l+(r-h),m,aK,a2,by rw[dn,pH];exact h9⟩
    have ade:(rows.take h++(rows.drop l).take (c+1)).length=h+(c+1):=by rw[dD,U,W]
    rw[gX O,ade,fT,show h+(c+1)+(r-(h+(c+1)))=r by omega] at aK;have D:j<size:=by rw[<-g4 m (bE aK)];exact(bS.1 a2).1
    have iD:h*size+(c+1)*size<=r*size+j:=by
     have:=dz size (O:h+(c+1)<=r);rw[dn] at this;omega
    rw[gX (by rw[dD,V,F];omega),dD,V,F,fT,show h*size+(c+1)*size+(r*size+j-(h*size+(c+1)*size))=r*size+j by omega] at a3;exact⟨r,m,aK,a2,by simpa using a3⟩
   rw[Y] at *; cases h0
  omega
theorem UQ(k L:Nat)(x y:Operand)(e W:TypeId)(p:List (List T))(X: ∀i,d=some i->Nat.blt i K.nt=true)(Y:s.get x= .bc k gen size 0 L)(f:dB (s.get y) (.t (.aE [])))(j:s.H k=some (.arr W gen size p))
  (R:K.P.underlying t=some (.slice e)) (v:cd K.P e u z size bytes) (E:0<size):
  dT K ⟨d,.call {callee:= .builtin .append,args:= #[x,y],argTypes:= #[t,t]},ty,pos,af,g⟩ s (s.put d (.bc k gen size 0 L)):=by
 intro M a w next Q D F
 have h:=D.get x;rw[Y] at h;have G:=f _ _ _ _ (D.get y);have I:=(D.heap k _ j).2;obtain⟨q,N⟩:=je I;obtain⟨_,i,r,V,qp,ux⟩:=id v;unfold Oper.wp;obtain⟨m,cap,A⟩: ∃m cap,a.eval y= .slice m 0 cap:=by
  rcases E7 G (Rows.nil size) E with (⟨B,_⟩|⟨b,o,c,_,B,_⟩)|⟨_,m,cap,B⟩
  ·exact⟨none,0,B⟩
  ·exact⟨_,c,B⟩
  exact⟨m,cap,B⟩
 have C:(execOp a.eval ⟨d,.call {callee:= .builtin .append,args:= #[x,y],argTypes:= #[t,t]},ty,pos,af,g⟩).run K.P w= .ok (.value (a.eval x)) w:=by
  rcases fa h N with ⟨U,b,n,hn,l,_,_,_,_,cD,_⟩|⟨_,_,_,l⟩
  ·cases m<;>simp[execOp,resolve,invoke,builtin,l,A,Builtin.append_,run_underlying R,sizeOf,typeInfo,r,Builtin.lenOf,Builtin.firstCells,cD,storeCells,loadCells,loadCellsFrom]
  cases m<;>simp[execOp,resolve,invoke,builtin,l,A,Builtin.append_,run_underlying R,sizeOf,typeInfo,r,Builtin.lenOf,Builtin.firstCells,loadCells,loadCellsFrom]
 rw[C];exact F M _ w (D.put d X h)
theorem Xc{size off:Nat}{a c:List (List T)}{us cs:List Value}(w:off+m<=a.length)(B:a.length*size<=us.length)(p:cs.length=m*size)(C:m<=c.length)(q: ∀e,e∈a->e.length=size)(l: ∀e,e∈c->e.length=size){R:T->Value->Prop}
  (r: ∀(i j:Nat) (e:List T) (x:T) (u:Value),a[i]? =some e->e[j]? =some x->us[i*size+j]? =some u->R x u)
  (y: ∀(i j:Nat) (e:List T) (x:T) (u:Value),c[i]? =some e->e[j]? =some x->cs[i*size+j]? =some u->R x u):
  ∀(i j:Nat) (e:List T) (x:T) (u:Value),(a.take off++c.take m++a.drop (off+m))[i]? =some e->e[j]? =some x->(us.take (off*size)++cs++us.drop (off*size+cs.length))[i*size+j]? =some u->R x u:=by
 have D:off*size+m*size<=a.length*size:=by rw[<-dn];exact dz _ w
 have A:=vJ (us.take (off*size)) cs [] (rows:=a.take off) (news:=c.take m) (n:=off) (size:=size) (by rw[cL];omega) (by rw[cL];omega) (by rw[cL,p];congr 1;omega)
  (λe h=>q e (ga h)) (λe h=>l e (ga h)) (R:=R)
  (λk j e x u aK a2 a3=>by
   rw[fA] at aK a3;split at aK
   ·split at a3
    ·exact r k j e x u aK a2 a3
    cases a3
   cases aK)
  (λk j e x u aK a2 a3=>by
   rw[fA] at aK;split at aK
   ·exact y k j e x u aK a2 a3
   cases aK)
 have o:(us.drop (off*size+cs.length)).length=us.length-(off+m)*size:=by rw[fq,p,dn]
 have fF:=vJ (us.take (off*size)++cs) ((us.drop (off*size+cs.length)).take ((a.length-(off+m))*size)) ((us.drop (off*size+cs.length)).drop ((a.length-(off+m))*size)) (rows:=a.take off++c.take m) (news:=a.drop (off+m)) (n:=off+m) (size:=size)
  (by rw[dD,cL,cL];omega) (by rw[dD,cL,p,dn];omega)
  (by
   rw[cL,o,fq]
   have:(a.length-(off+m))*size=a.length*size-(off+m)*size:=tc _ _ _;omega)
  (λe h=>by
   rcases dZ.1 h with h|h
   ·exact q e (ga h)
   exact l e (ga h)) (λe h=>q e (e7 h)) (R:=R) (λk j e x u aK a2 a3=>A k j e x u aK a2 (by simpa using a3))
  (λk j e x u aK a2 a3=>by
   rw[fT] at aK;rw[fA] at a3;split at a3
   ·rw[fT,p] at a3;refine r (off+m+k) j e x u aK a2 ?_;rw[dn,dn,pH];exact a3
   cases a3)
 intro i j e x u aK a2 a3;refine fF i j e x u aK a2 ?_;rw[ih _ (List.take _ _),vr];exact a3
theorem aaW(x y:Operand)(X c len:Nat)(e e' lS:TypeId)(rows k:List (List T))(cv: ∀i,d=some i->Nat.blt i K.nt=true)(hx:s.get x= .bc X gen size c len)(hy:dB (s.get y) (.t (.aE k)))(hH:s.H X=some (.arr e' gen size rows))(e4:K.P.underlying t=some (.slice e))
  (he:cd K.P e u z size bytes) (hp:0<size) (Y: ∀r,r∈k->r.length=size) (cD:c+len<=rows.length):
  dT K ⟨d,.call {callee:= .builtin .copy,args:= #[x,y],argTypes:= #[t,lS]},ty,pos,af,g⟩ s
   (({s with H:=aU s.H X (some (.arr e' gen size (rows.take c++k.take (Nat.min k.length len)++rows.drop (c+Nat.min k.length len))))}:S).put d (.t (.int .i64 (Nat.min k.length len:Nat)))):=by
 intro β a w next Q b7 hk
 have f:=b7.get x;rw[hx] at f;have lJ:=hy _ _ _ _ (b7.get y);have E:=(b7.heap X _ hH).2;obtain⟨q,M⟩:=je E;obtain⟨_,i,mh,hi2,qp,ux⟩:=he;unfold Oper.wp;have adW: ∃C c1,a.eval x= .slice C len c1:=by
  rcases fa f M with ⟨D,b,n,hn,B,_⟩|⟨_,_,h0,B⟩
  ·exact⟨_,D,B⟩
  subst h0;exact⟨none,0,B⟩
 have L:=E7 lJ Y hp;have adY: ∃IF c2,a.eval y= .slice IF k.length c2:=by
  rcases L with (⟨A,U⟩|⟨b,c,D,G,A,_⟩)|⟨U,iy,D,A⟩
  ·subst U;exact⟨none,0,A⟩
  ·exact⟨_,_,A⟩
  subst U;exact⟨iy,D,A⟩
 obtain⟨m,hm⟩: ∃m,m=Nat.min k.length len:=⟨_,rfl⟩
 rw[<-hm] at hk;by_cases N:m=0
 ·subst N;obtain⟨C,c1,B⟩:=adW;obtain⟨IF,c2,A⟩:=adY;have F:(execOp a.eval ⟨d,.call {callee:= .builtin .copy,args:= #[x,y],argTypes:= #[t,lS]},ty,pos,af,g⟩).run K.P w= .ok (.value (goInt ((0:Nat):Int))) w:=by
   cases C<;>cases IF<;>simp[execOp,resolve,invoke,builtin,B,A,Builtin.copy_,run_underlying e4,sizeOf,typeInfo,mh,Builtin.lenOf,Builtin.firstCells,<-hm,loadCells,loadCellsFrom,storeCells]
  rw[F]
  have:rows.take c++k.take 0++rows.drop (c+0)=rows:=aW
  rw[this] at hk;exact hk β _ _ ((b7.yk X _ hH).put d cv (.t _ _ (.int _ _)))
 have agh:m<=len:=by rw[hm];exact Nat.min_le_right _ _
 have o:m<=k.length:=by rw[hm];exact Nat.min_le_left _ _
 rcases L with (⟨_,U⟩|⟨cu,ae5,Bx,W,A,n',xC,k1,hwr⟩)|⟨U,_⟩
 ·subst U;simp at o;exact bB o N
 ·rcases fa f M with ⟨D,b,n,hn,B,jx,hw,hs,U,o2,mi⟩|⟨_,_,h0,_⟩
  ·subst jx;rcases E.2 with ⟨h1,_⟩|⟨V,G,h1,h2,h3,h4,h5⟩
   ·rw[M] at h1;cases h1
   rw[M] at h1;cases h1;have I:(W.take (m*size)).length=m*size:=by rw[cL,n'];have:=dz size o;omega
   have nk:c*size+m*size<=G.size:=by
    have:(c+m)*size<=rows.length*size:=dz _ O;rw[dn] at this;omega
   have PG:=run_loadCells_list (P:=K.P) w ⟨cu,ae5,none⟩ (W.take (m*size)) (λj y hj=>by
    rw[iZ];rw[fA] at hj;split at hj
    ·exact xC j y hj
    cases hj)
   have o6:=run_storeCells_at K.P b (c*size) e' (W.take (m*size)) 0 G w h2 (by rw[I];omega) λv bI=>k1 v (ga bI);simp only[Nat.add_zero] at o6;rw[I] at PG;have F:(execOp a.eval ⟨d,.call {callee:= .builtin .copy,args:= #[x,y],argTypes:= #[t,lS]},ty,pos,af,g⟩).run K.P w= .ok (.value (goInt (m:Int))) (w.setRow b (G.toList.take (c*size)++W.take (m*size)++G.toList.drop (c*size+(W.take (m*size)).length)).toArray):=by
    simp[execOp,resolve,invoke,builtin,B,A,Builtin.copy_,run_underlying e4,sizeOf,typeInfo,mh,qp,Builtin.lenOf,Builtin.firstCells,<-hm,PG,o6]
   rw[F];have k0:(G.toList.take (c*size)++W.take (m*size)++G.toList.drop (c*size+(W.take (m*size)).length)).toArray.size=G.size:=by
    have h2: ∀l:List Value,l.toArray.size=l.length:=λl=>aW
    rw[h2];simp only[List.length_append,I,List.length_take,List.length_drop,Array.length_toList];omega
   have hlen:(rows.take c++k.take m++rows.drop (c+m)).length=rows.length:=bQ
   have ku:own K β s.H b:= .inr ⟨X,by rw[hH];simp,.inl ⟨_,M⟩⟩;refine hk β _ _ (Rel.put (Rel.setRow b7 X b (.inl ⟨_,M⟩) G e' h2 _ k0 (.arr e' gen size (rows.take c++k.take m++rows.drop (c+m))) (by rw[hH];simp)
    ⟨E.1,Or.inr ⟨b,_,M,setRow_heap _ _ _ _ _ _ h2,by rw[k0,hlen];exact h3,λr p=>?_,λi j r x u aK a2 a3=>?_⟩⟩) d cv (.t _ _ (.int _ _)))
   ·rw[dZ,dZ] at p;rcases p with (p|p)|p
    ·exact h4 r (ga p)
    ·exact Y r (ga p)
    exact h4 r (e7 p)
   have h9:=Xc (off:=c) (m:=m) (us:=G.toList) (cs:=W.take (m*size)) O (by simpa using h3) I o h4 Y (R:=λx u=>cX w (own K β s.H) x u) (λi j r x u cU cu V=>h5 i j r x u cU cu (by simpa using V))
    (λi j r x u cU cu V=>by
     rw[fA] at V;split at V
     ·exact hwr i j r x u cU cu V
     cases V) i j r x u aK a2 (by simpa using a3)
   refine h9.mono ⟨rfl,rfl,rfl,aW,λkk _ hx=>setRow_other _ _ _ _ λe0=>hx ?_⟩ λ_ _ h=>h;subst e0;exact ku
  omega
 subst U;simp at o;exact bB o N
end steps
end
variable {P:Program}{r:List Nat}{o:Oper}{b:S}{c l n M I U:List ct}{k gen size:Nat}{e:cQ}{e':E}{t:TypeId}{x y:Operand}{u:Nat->Bool}{m l1:List df}{i:Array Operand}{z:Value}
theorem b9.sub{H r:Nat->Option E}{a:List V}{v:V}(h:b9 P H o a v)(c: ∀k e,H k=some e->r k=some e):b9 P r o a v:=
 λβ w X i l m=>h β w X i (λid e n=>l id e (c id e n)) m
theorem dT.I8{K:Ctx}{s c:S}(h:dT K o s b)(m: ∀β a w,Rel K β b a w->Rel K β c a w):dT K o s c:=
 λβ a w next Q n p=>h β a w next Q n λe k l i=>p e k l (m e k l i)
theorem Z2{K:Ctx}{β:Map}{H:Nat->Option E}{e:E}(l:H k=some e):own K β (aU H k (some e'))=own K β H:=by
 funext b;apply propext;constructor
 ·rintro(h|⟨id,i,a⟩)
  ·exact .inl h
  by_cases c:id=k
  ·subst c;exact .inr ⟨id,by rw[l];simp,a⟩
  rw[bX _ _ _ _ c] at i;exact .inr ⟨id,i,a⟩
 rintro(h|⟨id,i,a⟩)
 ·exact .inl h
 by_cases c:id=k
 ·subst c;exact .inr ⟨id,by rw[bW];simp,a⟩
 exact .inr ⟨id,by rw[bX _ _ _ _ c];exact i,a⟩
theorem Rel.Iz{K:Ctx}{β:Map}{s:S}{a:Act}{w:World}(h:Rel K β s a w)(k:Nat){e:E}(m:s.H k=some e)(p: ∀X,cG β w X k e->cG β w X k e'):Rel K β {s with H:=aU s.H k (some e')} a w:=by
 have eu:=Z2 (K:=K) (β:=β) (e':=e') m;refine {h with heap:= ?_,cZ:= ?_}
 ·intro id l n;show _/\cG β w (own K β (aU s.H k (some e'))) id l;rw[eu];by_cases o:id=k
  ·subst o;have c:aU s.H id (some e') id=some l:=n;rw[bW] at c;cases c;obtain⟨q,r⟩:=h.heap id e m;exact⟨q,p _ r⟩
  have c:aU s.H k (some e') id=some l:=n;rw[bX _ _ _ _ o] at c;exact h.heap id l c
 intro i;show bn β w (own K β (aU s.H k (some e'))) _ _;rw[eu];exact h.cZ i
section
variable {K:Ctx} {s:S} {d:Option Tmp} {ty:TypeId} {pos:String} {af:Array Edge} {g:Option (Nat×Bool)}
theorem NH{f:FuncId}{c:Operand}{k:Array Operand}{l:Array TypeId}(m:List V)(args:List V)(r:V)
  (F:i' K.P f) (I:s.get c= .fn f m) (L: ∀i,d=some i->Nat.blt i K.nt=true) (R:fp (k.toList.map s.get++m) args) (U:gr gp args=true) (h:Ed K.P K.G f args r):
  dT K ⟨d,.call {callee:= .value c,args:=k,argTypes:=l},ty,pos,af,g⟩ s (s.put d r):=by
 obtain⟨D,W,Y,b⟩:=F;intro β a w next Q o j
 have y:D.name≠ "runtime.NumGoroutine" :=by simpa using Y
 have z:D.body≠none:=by intro e;simp[e] at b
 obtain⟨us,A,B⟩:=(I▸o.get c).G5;have p:(execOp a.eval ⟨d,.call {callee:= .value c,args:=k,argTypes:=l},ty,pos,af,g⟩).run K.P w= .ok (.enter f (k.map a.eval++us)) w:=by
  simp[execOp,resolve,Deferred.ofValue,A,invoke,callFunc,W,y,z]
 unfold Oper.wp;rw[p,Oper.upon_enter];have n:=(dv.le ((o.nZ k.toList).app B) R).Ij U;have q:=h w (own K β s.H) _ o.BC o.Im n;have t:(List.map a.eval k.toList++us.toList).toArray=k.map a.eval++us:=by rw[<-vw,<-Array.toList_append]
 rw[t] at q;refine q.mono ?_;rintro e v ⟨u,rfl,x,M⟩;exact j β _ v ((o.grow x).put d L (M.any λ_ h=>h))
theorem rb{s:S}{d:Option Tmp}{v:V}{e:E}:cQ.app ⟨fb d v,[(k,some e)],[(k,true)]⟩ s=(s.new k e).put d v:=by cases d<;>rfl
theorem ot{s:S}{d:Option Tmp}{v:V}:cQ.app ⟨fb d v,[],[]⟩ s=s.put d v:=by cases d<;>rfl
theorem Ys{v:V}(a: ∀k,u k=false->s.u k=false)(i:jU K.nt d=true)(n:s.get x=v)
  (h:tN d u v l=some (e,m,c)):dT K ⟨d,.box t x,ty,pos,af,g⟩ s (e.app s):=by
 unfold tN at h;split at h
 ·split at h
  ·rename_i o p;cases h;rw[rb];exact aba _ (a _ o) x v (gQ i) n p
  cases h
 cases h
theorem Zh{H:Nat->Option E}(x:Operand)(v:V)(i:List T)(n:v.val=true)(k:v.cs=i.map .t):A' P H ⟨d,.box t x,ty,pos,af,g⟩ [v] (.aP i):=by
 intro β w X a _ o p;obtain⟨l,q⟩:=(show bn β w X v (a x) from p.1).cells n;have c:(execOp a ⟨d,.box t x,ty,pos,af,g⟩).run P w= .ok (.value (.pointer (some ⟨w.heap.size,0,none⟩))) (w.alloc (.cells (a x).cells t)):=by
  simp[execOp,Instr.box,newVar,newRow]
 refine⟨_,_,c,Ext.alloc _ _ _,?_⟩;refine .aP i w.heap.size 0 (λj=>(a x).cells.getD j undef) aW (λh=>by have:=o _ h;omega) (λj e=>?_) λj y m=>?_
 ·rw[dr,World.cell?_alloc_new]
  have:j<(a x).cells.size:=by rw[l,k];simpa using e
  simp[this]
 have e:j<(a x).cells.size:=by rw[l,k,c5];exact(bS.1 m).1
 have r:=q j (.t y) (a x).cells[j] (by rw[k,ev,m];rfl) (by simp[e]);cases r with
 |t _ _ h=>
  have:(a x).cells.getD j undef=(a x).cells[j]:=by simp[e]
  rw[this];exact h.mono (Ext.alloc X _ _) λ_ _ h=>h
theorem WY{v:V}(a:jU K.nt d=true)(i:s.get x=v)
  (h:Gg d v l=some (e,m,c)):dT K ⟨d,.box t x,ty,pos,af,g⟩ s (e.app s):=by
 unfold Gg at h;split at h
 ·split at h
  ·rename_i k n o;cases h;rw[ot];exact Jc (vals:=[np v]) (gQ a) ⟨i▸tx _,trivial⟩ (Zh x _ k n (ov o))
  cases h
 cases h
theorem VN{a:List (Nat×cj)}(n:dU K.P a){i:cj}(o:dy a t=some i)(p: ∀k,u k=false->s.u k=false)(q:jU K.nt d=true)
  (h:tN d u (gP i.z) l=some (e,m,c)):dT K ⟨d,.alloc t,ty,pos,af,g⟩ s (e.app s):=by
 unfold tN at h;split at h
 ·split at h
  ·rename_i r x;cases h;rw[rb];obtain⟨A,y,_⟩:=n _ _ o;exact ZC _ (p _ r) (gQ q) y x
  cases h
 cases h
theorem VG{l:List (Nat×cj)}(U:dU K.P l){C:dM}(W:C.cb=l){H:Nat->Option E}{a v:V}(G: ∀k e,H k=some e->s.H k=some e)
  (I:s.get x=a) (L:s.get y=v) (h:FI C t H a v n=some (e,m,c)) (p:ch m):dT K ⟨none,.store t x y,ty,pos,af,g⟩ s (e.app s):=by
 subst W;unfold FI at h;split at h
 ·cases h
 rename_i i Y;obtain⟨N,Q,_⟩:=U _ _ Y;split at h
 ·split at h
  ·rename_i cs q;split at h
   ·rename_i z A B b;cases h;exact ZA _ _ _ _ cs v I L (G _ _ q) Q z A B b
   cases h
  cases h
 ·split at h
  ·rename_i f R j o u r D n q F;split at h
   ·rename_i z A B;cases h;obtain⟨rfl,rfl,M,rfl,_⟩:=p;exact VY x y _ _ _ f o r u I (v:=np v) (by rw[L];exact tx v) (ov F) z (G _ _ q) Q M (cM A) (d' B)
   cases h
  cases h
 cases h
theorem Am{k i n:Nat}: ∀{m:List (Nat×Nat×V)},ch (tR k i n m)-> ∀e c l,(e,c,l)∈m->i<=c->c<i+n->e=k
 |h::m,a,e,c,l,hm,o,p=>by
  simp only[tR] at a;rcases dP.1 hm with rfl|hm
  ·have r:Nat.ble i c=true:=Nat.ble_eq_true_of_le o;have x:Nat.blt c (i+n)=true:=by simpa[Nat.blt_eq] using p
   simp only[r,x,Bool.and_self,cond_true] at a;exact a.1
  cases q:(Nat.ble i h.2.1&&Nat.blt h.2.1 (i+n)) with
  |true=>rw[q] at a;exact Am a.2 e c l hm o p
  |false=>rw[q] at a;exact Am a e c l hm o p
theorem An{k off n:Nat}: ∀{l:List (Nat×Nat×V)},ch (tS k off n l)-> ∀e c i,(e,c,i)∈l->off<=c->c<off+n->e≠k
 | [],_,_,_,_,hm,_,_=>by cases hm
 |h::l,a,e,c,i,hm,m,o=>by
  unfold tS at a;rcases dP.1 hm with rfl|hm
  ·have q:Nat.ble off c=true:=Nat.ble_eq_true_of_le m;have r:Nat.blt c (off+n)=true:=by simpa[Nat.blt_eq] using o
   simp only[q,r,Bool.and_self,cond_true] at a;exact a.1
  cases p:(Nat.ble off h.2.1&&Nat.blt h.2.1 (off+n)) with
  |true=>rw[p] at a;exact An a.2 e c i hm m o
  |false=>rw[p] at a;exact An a e c i hm m o
theorem UI{C:dM}(kt:dU K.P C.cb){H:Nat->Option E}{a v:V}{N:List ct}(hH: ∀k e,H k=some e->s.H k=some e)
  (D:s.get x=a) (hy:s.get y=v) (h:Fj C t H a v M=some (e,l1,N)) (I:ch l1):dT K ⟨none,.store t x y,ty,pos,af,g⟩ s (e.app s):=by
 unfold Fj at h;split at h
 ·rename_i i id gen sz k F r M T;obtain⟨aha,e4,_⟩:=kt _ _ T;split at h
  ·rename_i fo m L p eu xr;split at h
   ·rename_i l o h7;cases h;simp only[Bool.and_eq_true] at o;obtain⟨rfl,eJ,b7,di⟩:=I;obtain⟨k',Q⟩:=ch.app di;obtain⟨cU,cu⟩:=yU h7 k';refine T3 x y _ _ _ fo m p r v eu D hy o.1 o.2.1 (hH _ _ xr) eJ e4 (cM o.2.2.1) (by simpa[Nat.blt_eq] using o.2.2.2.2) b7 (d' o.2.2.2.1) (Am Q) λj hj=>?_;have G:=bs (show j<(l.map (·.2)).length by simp[cU];exact hj);exact⟨_,cu j _ G⟩
   cases h
  cases h
 ·rename_i i id gen sz k F q n r M T;obtain⟨aha,e4,_⟩:=kt _ _ T;split at h
  ·rename_i fo m L p eu xr;split at h
   ·rename_i l o h7;cases h;simp only[Bool.and_eq_true] at o;obtain⟨rfl,eJ,b7,di⟩:=I;obtain⟨k',Q⟩:=ch.app di;obtain⟨Q,pn⟩:=ch.app Q;obtain⟨pn,Qg⟩:=ch.app pn;obtain⟨cU,cu⟩:=yU h7 k';have R:=cM o.2.2.1;have B: ∀x,x∈(eu.drop q.toNat).take n->x∈eu:=λx D=>e7 (ga D);have A: ∀x,x∈eu->x∈eu.take q.toNat\/x∈(eu.drop q.toNat).take n\/x∈(eu.drop q.toNat).drop n:=λx D=>by
     rw[<-vr q.toNat eu,dZ] at D;rcases D with h|h
     ·exact .inl h
     rw[<-vr n (eu.drop q.toNat),dZ] at h;exact .inr h
    refine Tf x y _ _ _ fo m p r v eu D hy o.1 o.2.1 (hH _ _ xr) eJ e4 R (by simpa[Nat.blt_eq] using o.2.2.2.2) b7 (d' o.2.2.2.1) (λf U u hm=>?_) (λf U W hm=>?_) λj hj=>?_
    ·rcases dZ.1 hm with c|c
     ·exact⟨u,ga c,λz=>bB z.1 (An pn f U u c z.2.1 z.2.2),λ_=>rfl⟩
     rcases dZ.1 c with c|c
     ·obtain⟨W,aK,a2,a3⟩:=zp c;refine⟨W,B _ aK,λz=>?_,λz=>a3 λY=>z ⟨Am Q f U W aK Y.1 O,Y.1,O⟩⟩;have b:=bs (O:U-F<v.cs.length);rw[a2 z.2.1 _ b];exact b
     exact⟨u,e7 (e7 c),λz=>bB z.1 (An Qg f U u c z.2.1 z.2.2),λ_=>rfl⟩
    ·rcases A _ hm with c|c|c
     ·exact⟨W,dZ.2 (.inl c)⟩
     ·obtain⟨v1,h2⟩:=Aq (off:=F) (vs:=v.cs) c;exact⟨v1,dZ.2 (.inr (dZ.2 (.inl h2)))⟩
     exact⟨W,dZ.2 (.inr (dZ.2 (.inr c)))⟩
    have G:=bs (show j<(l.map (·.2)).length by simp[cU];exact hj);exact⟨_,B _ (cu j _ G)⟩
   cases h
  cases h
 cases h
theorem dT.afG{K:Ctx}{s c:S}(h:dT K o s b)(p:b.le K c):dT K o s c:=
 λβ a w next Q q r=>h β a w next Q q λi m n k=>let ⟨e,l⟩:=p i m n k;r e m n l
theorem L8{z:List T}: ∀{l:List (Nat×Nat)} {j m:Nat},wK z l=true->tW l j=some m->z[j]? =some .fl
 |p::l,j,m,h,a=>by
  simp only[wK,Bool.and_eq_true] at h;simp only[tW] at a;cases c:Nat.beq p.1 j with
  |true=>
   rw[<-cM c];have e:=h.1;split at e
   ·assumption
   cases e
  |false=>rw[c] at a;exact L8 h.2 a
theorem V2{K:Ctx}{s:S}(k:Nat){L n:Nat}{z:List T}(e:List dQ)(m:Nat)(B:s.H k=some (.arr t gen L (List.replicate n z)))(r:(aO e m).ty=t)(D:(aO e m).size=L)
  (Y:wK z (aO e m).bm=true):s.le K {s with H:=aU s.H k (some (.a8 e m gen (List.replicate n (z.map iI)) []))}:=by
 intro β a w h;refine⟨_,h.drop k (.a8 e m gen (List.replicate n (z.map iI)) []) (by rw[B];simp) ?_⟩;have l:=(h.heap k _ B).2;subst r;subst D;refine⟨l.1,?_⟩;have o: ∀b,own K (β.drop k) (aU s.H k (some (.a8 e m gen (List.replicate n (z.map iI)) []))) b->own K β s.H b:=by
  rintro b (f|⟨id,r,D⟩)
  ·exact .inl f
  refine .inr ⟨id,λF=>?_,oq D⟩;by_cases R:id=k
  ·subst R;rw[B] at F;cases F
  rw[bX _ _ _ _ R] at r;exact r F
 rcases l.2 with ⟨aK,a2⟩|⟨b,v,aK,a2,a3,a4,a5⟩
 ·have:n=0:=by simpa using a2
  subst this;exact .inl ⟨aK,rfl,λc p=>p.1 rfl⟩
 refine .inr ⟨b,v,λ_ _ _=>False,aK,a2,by simpa using a3,λG M=>?_,λi j G x u A U N=>Cell.of ?_,λ_ _ _ h=>h.elim,λ_ _ _ _ _ h=>h.elim,λc=>⟨λp=>bB rfl p.1,λ⟨_,_,p⟩=>p.elim⟩⟩
 ·obtain⟨P,rfl⟩:=pL.1 M;rw[c5];exact a4 z (pL.2 ⟨P,rfl⟩)
 rw[s9] at A;split at A
 ·rename_i I;cases A;rw[ev] at U;obtain⟨y,W,rfl⟩:=Option.map_eq_some_iff.1 U;have q:=(a5 i j z y u (by rw[s9,a1 I]) W N).mono (Ext.refl _ _) λb _=>o b;cases Q:(aO e m).ei j with
  |none=>exact .ja _ _ _ q.xY (λ_ h=>h)
  |some V=>
   have:=L8 Y Q;rw[W] at this;cases this;cases q;exact .nil _ _ λ_ h=>h
 cases A
theorem WS{C:dM}(kt:dU K.P C.cb){v w:V}{f:List ct}(I: ∀k,u k=false->s.u k=false)(cv:jU K.nt d=true)
  (hx:s.get x=v) (hy:s.get y=w) (h:F' C d t u v w f=some (e,l1,M)) (L:ch l1):dT K ⟨d,.makeSlice t x y,ty,pos,af,g⟩ s (e.app s):=by
 unfold F' at h;split at h
 ·cases h
 rename_i i l;split at h
 ·rename_i o N;have e4:K.P.underlying t=some (.slice o):=(kt _ _ l).ig.2.2.2 o N;split at h
  ·cases h
  rename_i j Q;obtain⟨qH,he,_⟩:=kt _ _ Q;split at h
  ·rename_i n m k R f p r;split at h
   ·rename_i T U h3 z;cases h;obtain⟨hnm,A,B,_⟩:=L;obtain⟨mj,adm,rfl⟩:=pw A;have D:m=n:=O
    subst D;simp only[Bool.and_eq_true] at z;have c:=d' z.2;have W:m.toNat*j.bytes<=1000000000*200000:=nA O c;have bP:=iW B;have Q:=Oc (K:=K) (s:=s) (d:=d) (ty:=ty) (pos:=pos) (af:=af) (g:=g) k (I _ T) x y o m.toNat p (gQ cv) e4 he (by rw[hx,<-bP]) (by rw[hy,<-bP]) (ov r) U h3 z.1 O O;refine Q.I8 λβ a w b7=>?_;have hk:((s.new k (.arr o 1 j.size (List.replicate m.toNat p))).put d (.bc k 1 j.size 0 m.toNat)).H k=some (.arr o 1 j.size (List.replicate m.toNat p)):=by
     cases d<;>exact bW _ _ _
    have Y:=b7.Iz k hk λX=>Zf;rw[rb,Db]
    have: ∀F G:E,({((s.new k F).put d (.bc k 1 j.size 0 m.toNat)) with H:=aU ((s.new k F).put d (.bc k 1 j.size 0 m.toNat)).H k (some G)}:S)=(s.new k G).put d (.bc k 1 j.size 0 m.toNat):=by
     intro F G;have I: ∀a b:Option E,aU (aU s.H k a) k b=aU s.H k b:=by
      intro a b;funext i;by_cases l:i=k
      ·subst l;rw[bW,bW]
      rw[bX _ _ _ _ l,bX _ _ _ _ l,bX _ _ _ _ l]
     cases d<;>simp only[S.put,S.new,I]
    rw[this] at Y;exact Y
   cases h
  ·rename_i n m k j2 fo q R f p r;split at h
   ·rename_i T U h3 z;cases h;obtain⟨adQ,k0,hnm,A,B,_⟩:=L;obtain⟨mj,adm,rfl⟩:=pw A;have D:m=n:=O
    subst D;simp only[Bool.and_eq_true] at U z;have c:=d' z.2;have W:m.toNat*j.bytes<=1000000000*200000:=nA O c;have bP:=iW B;have Q:=Oc (K:=K) (s:=s) (d:=d) (ty:=ty) (pos:=pos) (af:=af) (g:=g) k (I _ T) x y o m.toNat p (gQ cv) e4 he (by rw[hx,<-bP]) (by rw[hy,<-bP]) (ov r) U.1 h3 z.1 O O;have hk:((s.new k (.arr o 1 j.size (List.replicate m.toNat p))).put d (.bc k 1 j.size 0 m.toNat)).H k=some (.arr o 1 j.size (List.replicate m.toNat p)):=by
     cases d<;>exact bW _ _ _
    have cD:=V2 (K:=K) k fo q hk adQ k0 U.2;rw[rb,Db]
    have: ∀F G:E,({((s.new k F).put d (.bc k 1 j.size 0 m.toNat)) with H:=aU ((s.new k F).put d (.bc k 1 j.size 0 m.toNat)).H k (some G)}:S)=(s.new k G).put d (.bc k 1 j.size 0 m.toNat):=by
     intro F G;have I: ∀a b:Option E,aU (aU s.H k a) k b=aU s.H k b:=by
      intro a b;funext i;by_cases l:i=k
      ·subst l;rw[bW,bW]
      rw[bX _ _ _ _ l,bX _ _ _ _ l,bX _ _ _ _ l]
     cases d<;>simp only[S.put,S.new,I]
    rw[this] at cD;exact Q.afG cD
   cases h
  cases h
 cases h
theorem UK{C:dM}(F:dU K.P C.cb)(_hn0:C.da=K.da){G:TypeId}{H:Nat->Option E}{v w:V}{o:List ct}{L:List df}(Y: ∀k e,H k=some e->s.H k=some e)(b:jU K.nt d=true)
  (f:s.get x=v) (u:s.get y=w) (h:Fl C d t G H v w I=some (e,L,o)) (p:ch L):dT K ⟨d,.call {callee:= .builtin .append,args:= #[x,y],argTypes:= #[t,G]},ty,pos,af,g⟩ s (e.app s):=by
 unfold Fl at h;split at h
 ·cases h
 rename_i i M;split at h
 ·rename_i Q q;have N:K.P.underlying t=some (.slice Q):=(F _ _ M).ig.2.2.2 Q q;split at h
  ·cases h
  rename_i j r;obtain⟨qH,T,_⟩:=F _ _ r;split at h
  ·rename_i k gen U off len a R I hw;split at h
   ·rename_i e' l z c xr;split at h
    ·rename_i h1 n A;cases h;obtain⟨rfl,rfl,rfl,rfl,m,B,D,_⟩:=p;obtain⟨a',rfl⟩:=vO m;simp only[Bool.and_eq_true] at n A;have e1:=cM A.1;have e2:=cM A.2;have me:=cM h1;subst e1;subst e2;subst me;have W:(c.length+a.length)*j.bytes<=1000000000*140000:=nA a' (d' n.2.2);have r:=Yw (K:=K) (s:=s) (d:=d) (ty:=ty) (pos:=pos) (af:=af) (g:=g) (gen:=l) (size:=j.size) k x y e' c a (gQ b) f (by rw[u,<-hw];exact tx w) (Y _ _ xr) N T n.1 n.2.1 B D O O;rw[dD]
     have: ∀v e,cQ.app ⟨fb d v,[(k,some e)],[]⟩ s=({s with H:=aU s.H k (some e)}:S).put d v:=by intro v e;cases d<;>rfl
     rw[this];exact r
    cases h
   cases h
  cases h
 cases h
theorem TX{C:dM}(kt:dU K.P C.cb){lS:TypeId}{H:Nat->Option E}{v w:V}{W:List ct}(L: ∀k e,H k=some e->s.H k=some e)(Y:jU K.nt d=true)
  (b:s.get x=v) (f:s.get y=w) (h:EY C d t lS H v w U=some (e,l1,W)) (p:ch l1):dT K ⟨d,.call {callee:= .builtin .append,args:= #[x,y],argTypes:= #[t,lS]},ty,pos,af,g⟩ s (e.app s):=by
 unfold EY at h;split at h
 ·cases h
 rename_i i aI;split at h
 ·rename_i u M;have N:K.P.underlying t=some (.slice u):=(kt _ _ aI).ig.2.2.2 u M;split at h
  ·cases h
  rename_i j z;obtain⟨qH,T,_⟩:=kt _ _ z;split at h
  ·rename_i k gen A off len eg g3 z3 ahr n3 R U;split at h
   ·rename_i fo m c a afN m3 aci da l adI B D;split at h
    ·rename_i n o Q;cases h;obtain⟨rfl,rfl,rfl,rfl,uv,ni,rfl,rfl,h3,F,HM,BR,_⟩:=p;obtain⟨a',rfl⟩:=vO F;simp only[Bool.and_eq_true] at n o Q;have G:=cM n.1;have I:=cM n.2;have me:=cM Q.1;subst G;subst I;subst me;have hmul:(a.length+(da::l).length)*j.bytes<=1000000000*140000:=nA a' (d' o.2.2);have z:=Xl (K:=K) (s:=s) (d:=d) (ty:=ty) (pos:=pos) (af:=af) (g:=g) (gen:=c) (size:=j.size) k eg aci (l.length+1) x y u fo afN m m3 a (da::l) adI (gQ Y) b f (L _ _ B) (L _ _ D) h3 rfl N T o.1 uv ni HM BR (Nat.succ_pos _) Q.2.1 Q.2.2 O O;rw[dD]
     have: ∀v e,cQ.app ⟨fb d v,[(k,some e)],[]⟩ s=({s with H:=aU s.H k (some e)}:S).put d v:=by intro v e;cases d<;>rfl
     rw[this];exact z
    cases h
   ·rename_i e' c q a G3 B D;split at h
    ·rename_i n o;cases h;obtain⟨rfl,rfl,rfl,rfl,r,ada,sf,rfl,_⟩:=p;simp only[Bool.and_eq_true] at n o;have G:=cM n.1;have I:=cM n.2;have xd:=cM o.1;have xe:=cM o.2.1;have hp:0<j.size:=by simpa[Nat.blt_eq] using o.2.2
     subst G;subst I;subst xd;subst xe;subst r;have z:=VZ (K:=K) (s:=s) (d:=d) (ty:=ty) (pos:=pos) (af:=af) (g:=g) _ _ _ _ x y _ _ (gQ Y) b f (L _ _ B) N T hp ada sf
     have: ∀v e,cQ.app ⟨fb d v,[(eg,some e)],[]⟩ s=({s with H:=aU s.H eg (some e)}:S).put d v:=by intro v e;cases d<;>rfl
     rw[this];exact z
    cases h
   cases h
  ·rename_i k gen A off len U;split at h
   ·rename_i e' c q a B;split at h
    ·rename_i n o;cases h;obtain⟨rfl,rfl,r,_⟩:=p;simp only[Bool.and_eq_true] at n;have G:=cM n.1;have I:=cM o;have hp:0<j.size:=by simpa[Nat.blt_eq] using n.2
     subst G;subst I;subst r;rw[ot];exact UQ (K:=K) (s:=s) (d:=d) (ty:=ty) (pos:=pos) (af:=af) (g:=g) _ _ x y _ _ _ (gQ Y) b (dB.of_eq f) (L _ _ B) N T hp
    cases h
   cases h
  cases h
 cases h
theorem aaK{v:V}{x:T}(h:yp v=some x):v= .t x:=by cases v<;>simp[yp] at h;subst h;rfl
theorem Kg{d:dQ}: ∀{j:Nat} {a:List V} {r:List T} {c:List (Nat×Nat×V)},vS d j a=some (r,c)->r.length=a.length/\
  (∀i b v,(i,b,v)∈c->i=0/\ ∃k,b=j+k/\a[k]? =some v)/\(∀(k:Nat) x,r[k]? =some x->(∃v,(0,j+k,v)∈c)\/(d.ei (j+k)=none/\a[k]? =some (.t x)))
 |j,[],r,c,h=>by cases h;exact⟨rfl,λ_ _ _ h=>bB h List.not_mem_nil,λk x h=>by simp at h⟩
 |j,v::a,r,c,h=>by
  simp only[vS] at h;split at h
  ·cases h
  rename_i G n B;obtain⟨aK,a2,a3⟩:=Kg B;have y: ∀i b dw,(i,b,dw)∈n->i=0/\ ∃k,b=j+k/\(v::a)[k]? =some dw:=λi b dw hm=>by
   obtain⟨D,k,I,F⟩:=a2 i b dw hm;exact⟨D,k+1,O,by simpa using F⟩
  split at h
  ·rename_i L z;cases A:v.one with
   |false=>rw[A] at h;cases h
   |true=>
    rw[A] at h;cases h;refine⟨by simp[aK],λi b dw hm=>?_,λk x l=>?_⟩
    ·rcases dP.1 hm with e|hm
     ·cases e;exact⟨rfl,0,rfl,rfl⟩
     exact y i b dw hm
    cases k with
    |zero=>exact .inl ⟨v,eU⟩
    |succ k=>
     have:=a3 k x (by simpa using l);rw[show j+1+k=j+(k+1) by omega] at this;rcases this with ⟨dw,o⟩|⟨m,p⟩
     ·exact .inl ⟨dw,ey _ o⟩
     exact .inr ⟨m,by simpa using p⟩
  rename_i z;split at h
  ·rename_i Q q;cases h;refine⟨by simp[aK],y,λk x l=>?_⟩;cases k with
   |zero=>simp at l;subst l;exact .inr ⟨z,by simp[aaK q]⟩
   |succ k=>
    have:=a3 k x (by simpa using l);rw[show j+1+k=j+(k+1) by omega] at this;rcases this with m|⟨m,p⟩
    ·exact .inl m
    exact .inr ⟨m,by simpa using p⟩
  cases h
theorem aaU{u:TypeDesc}{q:Nat}(k:Nat)(hk:s.u k=false)(o:Array (Nat×Operand))(e:TypeId)(n M:List V)(A:List dQ)(m:Nat)(r:List T)(f:List (Nat×Nat×V))(cv: ∀i,d=some i->Nat.blt i K.nt=true)(B:fp ((o.toList.map (·.2)).map s.get) n)
  (hu:K.P.underlying t=some (.slice e)) (he:cd K.P e u z size q) (D:Nat.beq o.toList.length n.length=true) (hp:Nat.blt 0 size=true) (F:Nat.ble (1*size) 16777216=true)
  (h7:kH (λi=>some (i*size,size)) (List.replicate (1*size) .c4) ((o.toList.map (·.1)).zip n)=some M) (N:vS (aO A m) 0 M=some (r,f)) (hcl:M.length=size) (uv:(aO A m).size=size) (ni:(aO A m).ty=e):
  dT K ⟨d,.buildSlice t 1 o,ty,pos,af,g⟩ s ((s.new k (.a8 A m 1 [r] f)).put d (.bc k 1 size 0 1)):=by
 have adw:0<size:=by simpa[Nat.blt_eq] using hp
 obtain⟨x5,ag6,ag7⟩:=Kg N;intro β a w next Q b7 hkk
 have Hi:dv β w (own K β s.H) n ((o.toList.map (·.2)).map a.eval):=(b7.nZ _).le B;have o8:=vh a.eval o.toList;obtain⟨l,h1,h2⟩:=vM (β:=β) (w:=w) (X:=own K β s.H) (λi=>some (i*size,size)) (o.toList.map (·.1)) n _ (List.replicate (1*size) .c4)
  ((Array.range (1*size)).map ((if 1*size=0 then #[] else z.cells)[· %(if 1*size=0 then #[] else z.cells).size]!)) _ (Al _ _ _ _ _ aW) Hi (by simpa using cM D) h7
 have G:(execOp a.eval ⟨d,.buildSlice t 1 o,ty,pos,af,g⟩).run K.P w= .ok (.value (.slice (some ⟨w.heap.size,0,none⟩) 1 1)) (w.alloc (.cells l e)):=by
  have I:(o.toList.map λx=>match x with|(i,x)=>(i,a.eval x))=(o.toList.map (·.1)).zip ((o.toList.map (·.2)).map a.eval):=by rw[<-o8]
  have a': ¬(1*size>2^24):=by have:=d' F;omega
  have h0: ¬1*size=0:=O
  simp only[execOp,Instr.buildSlice,Sem.run_bind,run_underlying hu,Result.andThen_ok,he.run_sizeOf,a',if_false,Array.toList_map];simp only[h0,if_false] at h1;simp only[h0,if_false,Sem.run_pure,Sem.run_bind,he.sR,Result.andThen_ok];rw[I,h1];rfl
 unfold Oper.wp;rw[G];have p:l.size=size:=by
  have h:=h2.1;rw[lU] at h;omega
 have L:=b7.Ii k 1 hk l e (.a8 A m 1 [r] f) (λβ' hW w' hw o3 R jy=>⟨cO _,Or.inr ⟨w.heap.size,l,λ_ _ _=>False,o3,by subst hw;rw[ni];exact jr _ _,by rw[p,uv];simp,λrow U=>by rw[mK.1 U,x5,hcl,uv],λi j row x y aK a2 a3=>by
  have aI:=(bS.1 aK).1;have Hs:i=0:=by simpa using aI
  subst Hs;simp at aK;subst aK;rw[f',dr] at a3;refine⟨λv B=>⟨?_,λ_ h=>h⟩,λcH=>?_⟩
  ·obtain⟨_,b1,W,I⟩:=ag6 _ _ _ B;rw[dr] at W;subst W;exact R _ _ (h2.2 _ _ y I (by simpa using a3))
  rcases ag7 j x a2 with ⟨v,B⟩|⟨W,I⟩
  ·rw[dr] at B;exact bB B (cH v)
  rw[dr] at W;rw[W];have h6:=R _ _ (h2.2 _ _ y I (by simpa using a3));cases h6 with|t _ _ h=>exact .ja _ _ _ h λ_ h=>h,λ_ _ _ h=>h.elim,λ_ _ _ _ _ h=>h.elim,λc=>⟨λh=>bB h (jy c),λ⟨_,_,h⟩=>h.elim⟩⟩⟩)
 have Y:(w.alloc (.cells l e)).heap.size=w.heap.size+1:=World.size_alloc ..;have h8:(w.alloc (.cells l e)).shape? w.heap.size=some (e,l.size):=by unfold World.shape?;rw[jr]
 have b:bn (β.put k (some (some w.heap.size,1))) (w.alloc (.cells l e)) (own K (β.put k (some (some w.heap.size,1))) (s.new k (.a8 A m 1 [r] f)).H) (.bc k 1 size 0 1)
   (.slice (some ⟨w.heap.size,0*size,none⟩) 1 1):= .bc k 1 size 0 1 1 w.heap.size l.size e (cO _) (bW _ _ _) (Y▸mL _) h8 (by rw[p];omega) (cO _) (by unfold maxLen;omega)
 rw[f'] at b;exact hkk _ _ _ (L.put d cv b)
theorem Np{n j:Nat}{v:V}: ∀{a:List V} {i:Nat},(n,j,v)∈p0 i a->j=0/\ ∃k,n=i+k/\a[k]? =some v
 |x::a,i,h=>by
  simp only[p0] at h;rcases dP.1 h with h|h
  ·cases h;exact⟨rfl,0,rfl,rfl⟩
  obtain⟨e,k,l,c⟩:=Np h;exact⟨e,k+1,O,by simpa using c⟩
theorem Nn{v:V}: ∀{vs:List V} {i k:Nat},vs[k]? =some v->(i+k,0,v)∈p0 i vs
 |x::vs,i,0,h=>by
  simp at h;subst h;exact eU
 |x::vs,i,k+1,h=>by have:=Nn (i:=i+1) (k:=k) (vs:=vs) (by simpa using h);rw[show i+1+k=i+(k+1) by omega] at this;exact ey _ this
theorem aaV{u:TypeDesc}{l B:Nat}(k:Nat)(hk:s.u k=false)(n:Nat)(q:Array (Nat×Operand))(e:TypeId)(p D:List V)(F:List dQ)(m:Nat)(cv: ∀i,d=some i->Nat.blt i K.nt=true)(f:fp ((q.toList.map (·.2)).map s.get) p)
  (hu:K.P.underlying t=some (.slice e)) (he:cd K.P e u z l B) (G:Nat.beq q.toList.length p.length=true) (cH:Nat.blt 0 n=true) (M:l=1) (I:Nat.ble (n*l) 16777216=true)
  (h7:kH (λi=>some (i*l,l)) (List.replicate (n*l) .c4) ((q.toList.map (·.1)).zip p)=some D) (hcl:D.length=n) (N:(aO F m).size=1) (ni:(aO F m).ty=e):
  dT K ⟨d,.buildSlice t n q,ty,pos,af,g⟩ s ((s.new k (.a8 F m 1 (List.replicate n [.aE []]) (p0 0 D))).put d (.bc k 1 1 0 n)):=by
 subst M;have L:0<n:=by simpa[Nat.blt_eq] using cH
 intro β a w next Q b7 T
 have Hi:dv β w (own K β s.H) p ((q.toList.map (·.2)).map a.eval):=(b7.nZ _).le f;have o8:=vh a.eval q.toList;obtain⟨o,h1,h2⟩:=vM (β:=β) (w:=w) (X:=own K β s.H) (λi=>some (i*1,1)) (q.toList.map (·.1)) p _ (List.replicate (n*1) .c4)
  ((Array.range (n*1)).map ((if n*1=0 then #[] else z.cells)[· %(if n*1=0 then #[] else z.cells).size]!)) _ (Al _ _ _ _ _ aW) Hi (by simpa using cM G) h7
 have af5:=d' I;have R:(execOp a.eval ⟨d,.buildSlice t n q,ty,pos,af,g⟩).run K.P w= .ok (.value (.slice (some ⟨w.heap.size,0,none⟩) n n)) (w.alloc (.cells o e)):=by
  have e2:(q.toList.map λx=>match x with|(i,x)=>(i,a.eval x))=(q.toList.map (·.1)).zip ((q.toList.map (·.2)).map a.eval):=by rw[<-o8]
  have a': ¬(n*1>2^24):=O
  have h0: ¬n*1=0:=O
  simp only[execOp,Instr.buildSlice,Sem.run_bind,run_underlying hu,Result.andThen_ok,he.run_sizeOf,a',if_false,Array.toList_map];simp only[h0,if_false] at h1;simp only[h0,if_false,Sem.run_pure,Sem.run_bind,he.sR,Result.andThen_ok];rw[e2,h1];rfl
 unfold Oper.wp;rw[R];have r:o.size=n:=by
  have h:=h2.1;rw[lU] at h;omega
 have U:=b7.Ii k 1 hk o e (.a8 F m 1 (List.replicate n [.aE []]) (p0 0 D)) (λβ' hW w' hw L kY jy=>⟨cO _,Or.inr ⟨w.heap.size,o,λ_ _ _=>False,L,by subst hw;rw[ni];exact jr _ _,by rw[r,N];simp,λW A=>by rw[(pL.1 A).2,N];rfl,λi j W x y aK a2 a3=>by
  have aI:=(bS.1 aK).1;rw[Db] at aI;have A:W=[.aE []]:=(pL.1 (bE aK)).2;subst A;have hj0:j=0:=by
   have:=(bS.1 a2).1;simpa using this
  subst hj0;rw[N,Nat.mul_one,oD] at a3;refine⟨λv f=>⟨?_,λ_ h=>h⟩,λsi=>?_⟩
  ·obtain⟨_,b1,e1,e2⟩:=Np f;rw[dr] at e1;subst e1;exact kY _ _ (h2.2 _ _ y e2 (by simpa using a3))
  have bP:=bs (O:i<D.length)
  have:=Nn (i:=0) bP;rw[dr] at this;exact bB this (si _),λ_ _ _ h=>h.elim,λ_ _ _ _ _ h=>h.elim,λc=>⟨λh=>bB h (jy c),λ⟨_,_,h⟩=>h.elim⟩⟩⟩)
 have Y:(w.alloc (.cells o e)).heap.size=w.heap.size+1:=World.size_alloc ..;have h8:(w.alloc (.cells o e)).shape? w.heap.size=some (e,o.size):=by unfold World.shape?;rw[jr]
 have b:bn (β.put k (some (some w.heap.size,1))) (w.alloc (.cells o e)) (own K (β.put k (some (some w.heap.size,1))) (s.new k (.a8 F m 1 (List.replicate n [.aE []]) (p0 0 D))).H) (.bc k 1 1 0 n)
   (.slice (some ⟨w.heap.size,0*1,none⟩) n n):= .bc k 1 1 0 n n w.heap.size o.size e (cO _) (bW _ _ _) (Y▸mL _) h8 (by rw[r];omega) (cO _) (by unfold maxLen;omega)
 rw[f'] at b;exact T _ _ _ (U.put d cv b)
theorem aa'{u:TypeDesc}{D:Nat}(k:Nat)(hk:s.u k=false)(n:Nat)(p:Array (Nat×Operand))(e:TypeId)(o:List V)(c:List (List T))(cv: ∀i,d=some i->Nat.blt i K.nt=true)(bI:fp ((p.toList.map (·.2)).map s.get) o)
  (hu:K.P.underlying t=some (.slice e)) (he:cd K.P e u z size D) (I:Nat.beq p.toList.length o.length=true)
  (cH:c.length=n) (hp:Nat.blt 0 size=true) (F: ∀l,l∈c->l.length=size) (B:Nat.ble (n*size) 16777216=true)
  (h7:kH (λi=>some (i*size,size)) (List.replicate (n*size) .c4) ((p.toList.map (·.1)).zip o)=some (c.flatten.map .t)):
  dT K ⟨d,.buildSlice t n p,ty,pos,af,g⟩ s ((s.new k (.arr e 1 size c)).put d (.bc k 1 size 0 c.length)):=by
 subst cH;have adw:0<size:=by simpa[Nat.blt_eq] using hp
 intro β a w next Q b7 M
 have N:dv β w (own K β s.H) o ((p.toList.map (·.2)).map a.eval):=(b7.nZ _).le bI;have o8:=vh a.eval p.toList;obtain⟨m,A,G⟩:=vM (β:=β) (w:=w) (X:=own K β s.H) (λi=>some (i*size,size)) (p.toList.map (·.1)) o _ (List.replicate (c.length*size) .c4)
  ((Array.range (c.length*size)).map ((if c.length*size=0 then #[] else z.cells)[· %(if c.length*size=0 then #[] else z.cells).size]!)) _ (Al _ _ _ _ _ aW) N (by simpa using cM I) h7
 have L:(execOp a.eval ⟨d,.buildSlice t c.length p,ty,pos,af,g⟩).run K.P w= .ok (.value (.slice (some ⟨w.heap.size,0,none⟩) c.length c.length)) (w.alloc (.cells m e)):=by
  have e2:(p.toList.map λx=>match x with|(i,x)=>(i,a.eval x))=(p.toList.map (·.1)).zip ((p.toList.map (·.2)).map a.eval):=by rw[<-o8]
  have a': ¬(c.length*size>2^24):=by have:=d' B;omega
  simp only[execOp,Instr.buildSlice,Sem.run_bind,run_underlying hu,Result.andThen_ok,he.run_sizeOf,a',if_false,Array.toList_map];by_cases v:c.length*size=0
  ·simp only[v,if_true] at A;simp only[v,if_true,Sem.run_pure,Sem.run_bind,Result.andThen_ok];rw[e2,A];rfl
  simp only[v,if_false] at A;simp only[v,if_false,Sem.run_pure,Sem.run_bind,he.sR,Result.andThen_ok];rw[e2,A];rfl
 unfold Oper.wp;rw[L];have q:m.size=c.flatten.length:=by
  have h:=G.1;rw[c5,lU] at h;exact h
 have R:c.flatten.length=c.length*size:=by
  rw[List.length_flatten]
  have:c.map List.length=List.replicate c.length size:=List.eq_replicate_iff.2 ⟨aW,λb a'=>by obtain⟨r,b7,rfl⟩:=eM.1 a';exact F r b7⟩;rw[this];simp
 have U: ∀(c:List (List T)),(∀l,l∈c->l.length=size)-> ∀(i j:Nat) (l:List T) (x:T),c[i]? =some l->l[j]? =some x->c.flatten[i*size+j]? =some x:=by
  intro c;induction c with
  |nil=>intro _ i j l x h _;simp at h
  |cons r c ml=>
   intro hs i j l x A G;have b7:=hs r aW;rw[List.flatten_cons];cases i with
   |zero=>
    simp at A;subst A
    have:=(bS.1 G).1;rw[f',dr,gL this];exact G
   |succ i=>
    simp at A;rw[gX (by rw[b7,dn];omega)];rw[show(i+1)*size+j-r.length=i*size+j by rw[b7,dn];omega];exact ml (λl h=>hs l (by simp[h])) i j l x A G
 have W:=b7.new k 1 hk m e (.arr e 1 size c) (λβ' hW w' hw o3 kY=>⟨cO _,Or.inr ⟨w.heap.size,m,o3,by subst hw;exact jr _ _,by rw[q,R];exact cO _,F,λi j l x y aK a2 a3=>by
  have h5:=U c F i j l x aK a2;have h6:=G.2 (i*size+j) (.t x) y (by rw[ev,h5];rfl) (by simpa using a3);have lF:=kY _ _ h6;cases lF with|t _ _ h=>exact h⟩⟩)
 have Y:(w.alloc (.cells m e)).heap.size=w.heap.size+1:=World.size_alloc ..;have h8:(w.alloc (.cells m e)).shape? w.heap.size=some (e,m.size):=by unfold World.shape?;rw[jr]
 have f:bn (β.put k (some (some w.heap.size,1))) (w.alloc (.cells m e)) (own K (β.put k (some (some w.heap.size,1))) (s.new k (.arr e 1 size c)).H) (.bc k 1 size 0 c.length)
   (.slice (some ⟨w.heap.size,0*size,none⟩) c.length c.length):= .bc k 1 size 0 c.length c.length w.heap.size m.size e (cO _) (bW _ _ _) (Y▸mL _) h8 (by rw[q,R];simp) (cO _)
    (by
     have a':=d' B;unfold maxLen
     have:c.length*1<=c.length*size:=Nat.mul_le_mul_left _ O;omega)
 rw[f'] at f;exact M _ _ _ (W.put d cv f)
theorem Yl{C:dM}(W:dU K.P C.cb){n:Nat}{o:Array (Nat×Operand)}{a:List V}{Y:List ct}{b:List df}(f: ∀k,u k=false->s.u k=false)(D:jU K.nt d=true)
  (L:a=(o.toList.map (·.2)).map s.get) (h:GF C d t n (o.toList.map (·.1)) u a Y=some (e,b,I)) (Q:ch b):dT K ⟨d,.buildSlice t n o,ty,pos,af,g⟩ s (e.app s):=by
 unfold GF at h;split at h
 ·cases h
 rename_i i v;split at h
 ·rename_i q R;have F:K.P.underlying t=some (.slice q):=(W _ _ v).ig.2.2.2 q R;split at h
  ·cases h
  rename_i j M;obtain⟨qH,G,_⟩:=W _ _ M;split at h
  ·rename_i k Y U;split at h
   ·rename_i p;cases h
    have:o= #[]:=by
     have:o.toList=[]:=by simpa using U
     simpa using this
    subst this;rw[rb];exact Yv k (f _ p) q (gQ D) F G
   cases h
  ·split at h
   ·cases h
   rename_i cs l;split at h
   ·cases h
   rename_i r m;split at h
   ·rename_i N p x y T;cases h;have c:=cM p;obtain⟨z,A,B⟩:=zQ j.size _ r c;rw[rb];refine aa' _ (f _ N) _ o q (gJ a) _ (gQ D) (by rw[L];exact lQ _) F G (by rw[sF];simpa using x) z T A y (by rw[l,B,ov m])
   cases h
  ·split at h
   ·cases h
   rename_i cs l;split at h
   ·cases h
   rename_i r m;split at h
   ·rename_i p x y;cases h;have c:=cM p;obtain⟨z,A,B⟩:=zQ j.size _ r c;rw[ot];rw[<-Q.1];refine Jc (vals:=gJ a) (gQ D) ?_ (Jy _ o q (gJ a) _ F G ?_ (by simp[z]) A y (by rw[l,B,ov m]))
    ·rw[L];simp only[Op.operands];exact lQ _
    rw[sF];simpa using x
   cases h
  ·split at h
   ·cases h
   rename_i cs l;split at h
   ·cases h
   rename_i r m;split at h
   ·rename_i p x y;cases h;have c:=cM p;obtain⟨z,A,B⟩:=zQ j.size _ r c;rw[ot];refine Jc (vals:=gJ a) (gQ D) ?_ (Jy _ o q (gJ a) _ F G ?_ (by simp[z]) A y (by rw[l,B,ov m]))
    ·rw[L];simp only[Op.operands];exact lQ _
    rw[sF];simpa using x
   cases h
  cases h
 cases h
theorem WT{C:dM}(L:dU K.P C.cb){n:Nat}{c:Array (Nat×Operand)}{a:List V}{p:List ct}{o:List df}(Q: ∀k,u k=false->s.u k=false)(R:jU K.nt d=true)
  (U:a=(c.toList.map (·.2)).map s.get) (h:Ga C d t n (c.toList.map (·.1)) u a l=some (e,o,p)):dT K ⟨d,.buildSlice t n c,ty,pos,af,g⟩ s (e.app s):=by
 unfold Ga at h;split at h
 ·cases h
 rename_i i b;split at h
 ·rename_i z B;have W:K.P.underlying t=some (.slice z):=(L _ _ b).ig.2.2.2 z B;split at h
  ·cases h
  rename_i j f;obtain⟨N,Y,_⟩:=L _ _ f;split at h
  ·rename_i k A m l;split at h
   ·cases h
   rename_i cs x;split at h
   ·cases h
   rename_i r v D;split at h
   ·rename_i F y q G I;cases h;simp only[Bool.and_eq_true] at y q;rw[rb];exact aaU k (Q _ F) c z (ua ((aO A m).ei 0) a) cs A m r v (gQ R) (by rw[U];exact Z4 _ _) W Y (by rw[UO];simpa using q.1) I G x D (cM y.1) (cM y.2) (cM q.2)
   cases h
  ·rename_i k A m l _;split at h
   ·cases h
   rename_i cs x;split at h
   ·rename_i F y q G I;cases h;simp only[Bool.and_eq_true] at y q;have M:=cM y.1;rw[rb];exact aaV k (Q _ F) _ c z (gJ a) cs A m (gQ R) (by rw[U];exact lQ _) W Y (by rw[sF];simpa using q.1) I M G x (cM y.2.1) (cM q.2.2) (cM q.2.1)
   cases h
  cases h
 cases h
theorem WX{C:dM}(z:C.P=K.P)(A:C.G=K.G){c:Operand}{k:Array TypeId}{a:List V}(B:jU K.nt d=true)
  (r:a=s.get c::i.toList.map s.get) (h:Gf C d a n=some (e,m,l)) (x:ch m):dT K ⟨d,.call {callee:= .value c,args:=i,argTypes:=k},ty,pos,af,g⟩ s (e.app s):=by
 unfold Gf at h;split at h
 ·rename_i f o args;split at h
  ·split at h
   ·rename_i p;cases h;rw[ot];obtain⟨⟨y,q⟩,_⟩:=x;rw[z] at y q;rw[A] at q;simp only[List.cons.injEq] at r;exact NH o _ _ y r.1.symm (gQ B) (by rw[<-r.2];exact lQ _) p q
   cases h
  ·cases h;rw[ot];obtain⟨p,⟨y,q⟩,_⟩:=x;rw[z] at y q;rw[A] at q;simp only[List.cons.injEq] at r;exact NH o _ _ y r.1.symm (gQ B) (by rw[<-r.2];exact lQ _) p q
  cases h
 cases h
mutual
theorem My{T D:Map}{w a:World}{X Y:Nat->Prop}: ∀{v:V} {u:Value},rH v=true->bn T w X v u->bn D a Y v u
 | .t (.int _ _),u,_,h=>by rw[dE h];exact .t _ _ (.int _ _)
 | .t (.bool _),u,_,h=>by rw[nm h];exact .t _ _ (.bool _)
 | .t (.str _),u,_,h=>by rw[hc h];exact .t _ _ (.str _)
 | .agg cs,u,e,h=>by
  simp only[rH] at e;cases h with|agg _ l m h=>exact .agg _ l m (λi c u k n=>EW e i c u k (h i c u k n))
 | .bL cs,u,e,h=>by
  simp only[rH] at e;cases h with|bL _ l m h=>exact .bL _ l m (λi c u k n=>EW e i c u k (h i c u k n))
 | .t (.aE _),_,e,_| .t .fl,_,e,_| .t .hi,_,e,_| .t .gu,_,e,_| .t .nn,_,e,_| .t .err,_,e,_=>by simp[rH] at e
 | .ref _ _,_,e,_| .aP _,_,e,_| .bc _ _ _ _ _,_,e,_| .cB _ _ _ _ _,_,e,_| .fn _ _,_,e,_| .c4,_,e,_=>by simp[rH] at e
theorem EW{T D:Map}{w a:World}{X Y:Nat->Prop}: ∀{cs:List V},tM cs=true-> ∀(i:Nat) c u,cs[i]? =some c->bn T w X c u->bn D a Y c u
 | [],_,_,_,_,h,_=>by simp at h
 |c::cs,e,0,l,u,k,h=>by
  simp only[tM,Bool.and_eq_true] at e;simp at k;subst k;exact My e.1 h
 |c::cs,e,i+1,l,u,k,h=>by simp only[tM,Bool.and_eq_true] at e;exact EW e.2 i l u (by simpa using k) h
end
theorem cG.read{β:Map}{w:World}{X Y:Nat->Prop}{a:List (List T)}{u:Value}(h:cG β w X k (.arr t gen size a))(B:bn β w X (.bc k gen size 0 a.length) u)
  (D: ∀b,Y b->X b) (F: ∀b,At β k b-> ¬Y b):cX w Y (.aE a) u:=by
 obtain⟨q,r⟩:=je h;rcases fa B r with ⟨y,b,n,G,rfl,m,I,f,L,Q,v⟩|⟨m,_,R,rfl⟩
 ·subst m;rcases h.2 with ⟨o,z⟩|⟨M,l,o,z,N,A,U⟩
  ·rw[r] at o;cases o
  rw[r] at o;cases o;rw[f'];refine .aE a b 0 size y (λi j=>l.getD (i*size+j) undef) I (F b (.inl ⟨_,r⟩)) Q A (λi j aI W=>?_) λi j p x aK a2=>?_
  ·have c:i*size+j<l.size:=by
    have:(i+1)*size<=a.length*size:=dz _ aI;rw[dn] at this;omega
   rw[dr];simp[World.cell?,z,c]
  have aI:=(bS.1 aK).1;have W:j<size:=by rw[<-A p (bE aK)];exact(bS.1 a2).1
  have c:i*size+j<l.size:=by
   have:(i+1)*size<=a.length*size:=dz _ aI;rw[dn] at this;omega
  have:=U i j p x l[i*size+j] aK a2 (by simp[c]);have e:l.getD (i*size+j) undef=l[i*size+j]:=by simp[c]
  rw[e];exact this.mono (Ext.refl _ _) λb _=>D b
 have:a=[]:=List.length_eq_zero_iff.1 R;subst this;exact .fS _ _
theorem cG.afh{β:Map}{w:World}{X G:Nat->Prop}{l:List dQ}{m:Nat}{a:List (List T)}{u:Value}(h:cG β w X k (.a8 l m gen a []))(U:bn β w X (.bc k gen (aO l m).size 0 a.length) u)
  (W: ∀b,G b->X b) (L: ∀b,At β k b-> ¬G b):cX w G (.aE a) u:=by
 obtain⟨q,D⟩:=tn h;rcases fa U D with ⟨I,b,n,Y,rfl,o,f,hs,t,v,hm⟩|⟨o,_,M,rfl⟩
 ·subst o;rcases h.2 with ⟨p,Q⟩|⟨gf,r,B,p,Q,h3,R,N,_,_,P⟩
  ·rw[D] at p;cases p
  rw[D] at p;cases p;rw[f'];have y: ∀i j,i<a.length->j<(aO l m).size->i*(aO l m).size+j<r.size:=λi j aI F=>by
   have:(i+1)*(aO l m).size<=a.length*(aO l m).size:=dz _ aI;rw[dn] at this;omega
  refine .aE a b 0 (aO l m).size I (λi j=>r.getD (i*(aO l m).size+j) undef) f (L b (.inl ⟨_,D⟩)) v R (λi j aI F=>?_) λi j z x aK a2=>?_
  ·have:=y i j aI F;rw[dr];simp[World.cell?,Q,this]
  have aI:=(bS.1 aK).1;have F:j<(aO l m).size:=by rw[<-R z (bE aK)];exact(bS.1 a2).1
  have A:=y i j aI F
  have:=(N i j z x r[i*(aO l m).size+j] aK a2 (by simp[A])).none;have e:r.getD (i*(aO l m).size+j) undef=r[i*(aO l m).size+j]:=by simp[A]
  rw[e];exact this.yl W λc V=>L c (.inr ((P c).2 ⟨i,j,V⟩))
 have:a=[]:=List.length_eq_zero_iff.1 M;subst this;exact .fS _ _
def tz:V->List Nat
 | .bc k _ _ _ _=>[k]
 |_=>[]
mutual
def pX(H:Nat->Option E):V->List Nat
 | .bc k _ _ _ _=>[k]
 | .ref id _=>id::(match H id with
  |some (.cells cs)=>cs.flatMap tz
  |_=>[])
 | .agg cs=>oM H cs
 | .bL cs=>oM H cs
 | .fn _ cs=>oM H cs
 | .t _| .aP _| .cB _ _ _ _ _| .c4=>[]
def oM(H:Nat->Option E):List V->List Nat
 | []=>[]
 |v::a=>pX H v++oM H a
end
section
variable {β:Map} {w:World} {X X1:Nat->Prop} {H:Nat->Option E}
theorem Nv{v:V}{x:T}{r:List df}{u:Value}(q: ∀k e,H k=some e->cG β w X k e)(l: ∀b,X1 b->X b)(z: ∀k,k∈tz v-> ∀b,At β k b-> ¬X1 b)
  (h:w7 H v=some (x,r)) (a:ch r) (n:bn β w X v u):cX w X1 x u:=by
 cases v with
 |bc k gen A B D=>
  simp only[w7] at h;split at h
  ·rename_i ty c o i p;cases h;obtain⟨rfl,rfl,rfl,rfl,_⟩:=a;exact(q k _ p).read n l (z k (by simp[tz]))
  ·rename_i F m c i p;cases h;obtain⟨rfl,rfl,rfl,rfl,_⟩:=a;exact(q k _ p).afh n l (z k (by simp[tz]))
  cases h
 |t y=>
  simp only[w7] at h;cases h;cases n with|t _ _ h=>exact(h.mono (Ext.refl _ _) λb _=>l b).xY
 |agg=>cases h
 |bL=>cases h
 |ref=>cases h
 |aP=>cases h
 |cB=>cases h
 |fn=>cases h
 |c4=>cases h
theorem MT(q: ∀k e,H k=some e->cG β w X k e)(r: ∀b,X1 b->X b): ∀{a:List V} {eF:List T} {m:List df},(∀k,k∈a.flatMap tz-> ∀b,At β k b-> ¬X1 b)->Bc H a=some (eF,m)->ch m->
  eF.length=a.length/\ ∀(U:Nat->Option Value),(∀(i:Nat) c u,a[i]? =some c->U i=some u->bn β w X c u)-> ∀(i:Nat) x u,eF[i]? =some x->U i=some u->cX w X1 x u
 | [],_,_,_,h,_=>by cases h;exact⟨rfl,λ_ _ i x u B=>by simp at B⟩
 |v::a,eF,m,z,h,n=>by
  simp only[Bc] at h;split at h
  ·rename_i x D f F G I;cases h;obtain⟨L,Q⟩:=ch.app n;obtain⟨R,W⟩:=MT q r (λk o=>z k (by rw[List.flatMap_cons];exact pJ _ o)) I Q;refine⟨by simp[R],λU A i y u p l=>?_⟩;cases i with
   |zero=>
    simp at p;subst p;exact Nv q r (λk o=>z k (by rw[List.flatMap_cons];exact mJ _ o)) G L (A 0 v u rfl l)
   |succ i=>
    exact W (λj=>U (j+1)) (λj c u Y l=>A (j+1) c u (by simpa using Y) l) i y u (by simpa using p) l
  cases h
mutual
theorem Zq(G: ∀k e,H k=some e->cG β w X k e)(B: ∀b,X1 b->X b): ∀(v:V) {r:V} {y:List df} {u:Value},(∀k,k∈pX H v-> ∀b,At β k b-> ¬X1 b)->
  mW H v=some (r,y)->ch y->bn β w X v u->bn gS w X1 r u
 | .bc k gen W l len,r,y,u,q,h,a,o=>by
  simp only[mW] at h;split at h
  ·rename_i x z A;cases h;exact .t _ _ (Nv G B (λj L=>q j (by simpa[pX,tz] using L)) A a o)
  cases h
 | .t x,r,y,u,q,h,a,o=>by
  simp only[mW] at h;cases h;cases o with|t _ _ h=>exact .t _ _ (h.mono (Ext.refl _ _) λb _=>B b).xY
 | .aP cs,r,y,u,q,h,a,o=>by
  simp only[mW] at h;cases h;exact o.under (u:=gp) B (λ_ h=>by simp[gp] at h) rfl
 | .ref id l,r,y,u,q,h,a,o=>by
  simp only[mW] at h;split at h
  ·rename_i cs m;split at h
   ·rename_i eF z A;cases h;obtain⟨b,Y,rfl⟩:=tl o;obtain⟨gf,n,ty,M,N,me,xd⟩:=G id _ m;rw[Y] at M;cases M;obtain⟨Q,D⟩:=MT G B (λk F=>q k (by simp only[pX,m];exact ey _ F)) A a;have R:b<w.heap.size:=by
     have:=(jh.1 N).1;exact this
    refine .aP (eF.drop l) b l (λj=>n.getD (l+j) undef) R (q id (by simp[pX]) b (.inl ⟨_,Y⟩)) (λj L=>?_) λj x U=>?_
    ·rw[fq] at L
     have:l+j<n.size:=O
     simp[World.cell?,N,this]
    rw[fT] at U;have L:=(bS.1 U).1
    have:l+j<n.size:=O
    have e:n.getD (l+j) undef=n[l+j]:=by simp[this]
    rw[e];exact D (λi=>n[i]?) (λi c u m p=>xd i c u m p) (l+j) x _ U (by simp[this])
   cases h
  cases h
 | .agg cs,r,y,u,q,h,a,o=>by
  simp only[mW] at h;split at h
  ·rename_i P z A;cases h;cases o with|agg _ n T I=>
   obtain⟨Q,D⟩:=wB G B cs (λk F=>q k (by simpa[pX] using F)) A a;exact .agg _ n O λi c u m p=>D (λi=>n[i]?) (λi c u m p=>I i c u m p) i c u m p
  cases h
 | .bL cs,r,y,u,q,h,a,o=>by
  simp only[mW] at h;split at h
  ·rename_i P z A;cases h;cases o with|bL _ n T I=>
   obtain⟨Q,D⟩:=wB G B cs (λk F=>q k (by simpa[pX] using F)) A a;exact .bL _ n O λi c u m p=>D (λi=>n[i]?) (λi c u m p=>I i c u m p) i c u m p
  cases h
 | .fn f cs,r,y,u,q,h,a,o=>by
  simp only[mW] at h;split at h
  ·rename_i P z A;cases h;cases o with|fn _ _ n T I=>
   obtain⟨Q,D⟩:=wB G B cs (λk F=>q k (by simpa[pX] using F)) A a;exact .fn _ _ n O λi c u m p=>D (λi=>n[i]?) (λi c u m p=>I i c u m p) i c u m p
  cases h
 | .cB _ _ _ _ _,_,_,_,_,h,_,_=>by simp only[mW] at h;cases h
 | .c4,_,_,_,_,h,_,_=>by simp only[mW] at h;cases h
theorem wB(r: ∀k e,H k=some e->cG β w X k e)(z: ∀b,X1 b->X b): ∀(l:List V) {a:List V} {n:List df},(∀k,k∈oM H l-> ∀b,At β k b-> ¬X1 b)->
  oT H l=some (a,n)->ch n->a.length=l.length/\ ∀(U:Nat->Option Value),(∀(i:Nat) c u,l[i]? =some c->U i=some u->bn β w X c u)-> ∀(i:Nat) x u,a[i]? =some x->U i=some u->bn gS w X1 x u
 | [],_,_,_,h,_=>by simp only[oT] at h;cases h;exact⟨rfl,λ_ _ i x u D=>by simp at D⟩
 |v::l,a,n,A,h,o=>by
  simp only[oT] at h;split at h
  ·rename_i x F t G I L;cases h;obtain⟨Q,R⟩:=ch.app o;obtain⟨W,Y⟩:=wB r z l (λk p=>A k (by simp only[oM];exact pJ _ p)) L R;refine⟨by simp[W],λU B i y u q m=>?_⟩;cases i with
   |zero=>
    simp at q;subst q;exact Zq r z v (λk p=>A k (by simp only[oM];exact mJ _ p)) I Q (B 0 v u rfl m)
   |succ i=>
    exact Y (λj=>U (j+1)) (λj c u f m=>B (j+1) c u (by simpa using f) m) i y u (by simpa using q) m
  cases h
end
theorem Zr(r: ∀k e,H k=some e->cG β w X k e)(x: ∀b,X1 b->X b): ∀{l a:List V} {m:List df} {us:List Value},(∀k,k∈oM H l-> ∀b,At β k b-> ¬X1 b)->
  oT H l=some (a,m)->ch m->dv β w X l us->dv gS w X1 a us:=fun {l a m us} y h n q=>by obtain⟨z,A⟩:=wB r x l y h n;exact EE (by rw[z];exact q.fm.1) λi c u o p=>A (λi=>us[i]?) (λi c u o p=>q.fm.2 i c u o p) i c u o p
end
theorem Yt{C:dM}(xm:C.P=K.P)(kV:C.G=K.G){c:Operand}{x:Array TypeId}{l:List V}{H:Nat->Option E}{F:List ct}{N:List df}(cv:jU K.nt d=true)(hH: ∀k e,H k=some e->s.H k=some e)
  (I:l=s.get c::i.toList.map s.get) (h:GL C d H l M=some (e,N,F)) (L:ch N):dT K ⟨d,.call {callee:= .value c,args:=i,argTypes:=x},ty,pos,af,g⟩ s (e.app s):=by
 unfold GL at h;split at h
 ·rename_i f m args;split at h
  ·rename_i r M;split at h
   ·rename_i ys agM n R;cases h;rw[ot];obtain⟨x5,⟨y,o⟩,_⟩:=ch.app L;rw[xm] at y o;rw[kV] at o;simp only[List.cons.injEq] at I;obtain⟨T,h1,h2,h3⟩:=y;intro β a w next Q q U
    have W:T.name≠ "runtime.NumGoroutine" :=by simpa using h2
    have Y:T.body≠none:=by intro e;simp[e] at h3
    obtain⟨us,j,t⟩:=(I.1.symm▸q.get c).G5;have z:(execOp a.eval ⟨d,.call {callee:= .value c,args:=i,argTypes:=x},ty,pos,af,g⟩).run K.P w= .ok (.enter f (i.map a.eval++us)) w:=by
     simp[execOp,resolve,Deferred.ofValue,j,invoke,callFunc,h1,W,Y]
    unfold Oper.wp;rw[z,Oper.upon_enter];have A:dv β w (own K β s.H) (args++m) (i.toList.map a.eval++us.toList):=by rw[I.2];exact(q.nZ i.toList).app t
    let X1:Nat->Prop:=λb=>own K β s.H b/\ ∀k,k∈oM H (args++m)-> ¬At β k b;have p:=Zr (X1:=X1) (λk e v=>(q.heap k e (hH k e v)).2) (λb n=>n.1) (λk U b n hx=>hx.2 k U n) n x5 A;have B:=o w X1 _ q.BC (λb n=>q.Im b n.1) p;have v:(List.map a.eval i.toList++us.toList).toArray=i.map a.eval++us:=by rw[<-vw,<-Array.toList_append]
    rw[v] at B;refine B.mono ?_;rintro e w' ⟨u,rfl,D,hu⟩;exact U β _ w' ((q.grow D).put d (gQ cv) (My R hu))
   cases h
  cases h
 cases h
theorem ZI{C:dM}(t:C.P=K.P)(M:C.G=K.G){c:Operand}{F:Array Operand}{x:Array TypeId}{m:List V}{H:Nat->Option E}{W:List df}(N:jU K.nt d=true)
  (T: ∀k e,H k=some e->s.H k=some e) (hu: ∀k,u k=false->s.u k=false)
  (z:m=s.get c::F.toList.map s.get) (h:GR C d m H u U=some (e,W,I)) (Q:ch W):dT K ⟨d,.call {callee:= .value c,args:=F,argTypes:=x},ty,pos,af,g⟩ s (e.app s):=by
 unfold GR at h;split at h
 ·rename_i f A args;split at h
  ·rename_i L a r out U;split at h
   ·rename_i R gG fO aI n;cases h;simp only[List.cons.injEq] at z;simp only[Bool.and_eq_true] at n;obtain⟨⟨p,B⟩,i⟩:=n;have i:=cM i;obtain⟨⟨Y,q⟩,_⟩:=Q;rw[t] at Y q;rw[M] at q;obtain⟨aK,a2⟩:=wG _ _ fO;obtain⟨i1,i2⟩:=zW _ _ aI;have hx:=W' (K:=K) (s:=s) (o:=⟨d,.call {callee:= .value c,args:=F,argTypes:=x},ty,pos,af,g⟩) c L a A rfl z.1.symm Y (gQ N) (by rw[<-z.2,aK];exact lQ _) a2 i1
     (λk e l=>by
      obtain⟨id,h1,h2,h4⟩:=i2 k e l;exact⟨id,h1,T _ _ h2,h4⟩)
     (zr p) (λid hid=>hu _ (Ke B id hid)) (λ_=>i) q
    have hj:=hx.j;have l:cQ.app ⟨fb d (r.dt (L++a)),(L++a).zip (out.map λe=>some (e.dt (L++a))),(L++a).map λk=>(k,true)⟩ s=(s.after (L++a) out).put d (r.dt (L++a)):=by
     have e1:dh s.H ((L++a).zip (out.map λe=>some (e.dt (L++a))))=k8 s.H (L++a) (λk=>(out[k]?).map (E.dt (L++a))):=by
      have:=KD (L++a) (zr p) s.H (out.map λe=>some (e.dt (L++a))) (λk=>(out[k]?).map (E.dt (L++a))) (by simpa using i) (λk e l=>by
       rw[ev] at l;cases b:out[k]? with
       |none=>rw[b] at l;cases l
       |some y=>rw[b] at l;simp at l;rw[<-l];rfl)
      exact this
     have e2:dh s.u ((L++a).map λk=>(k,true))=k8 s.u (L++a) (λ_=>true):=by
      funext id;by_cases D:id∈L++a
      ·obtain⟨k,hk⟩:=kc.1 D;rw[od (zr p) hk];exact Kw D
      rw[ng D,mm _ _ _ λv z=>D (by obtain⟨y,hy,e⟩:=eM.1 z;cases e;exact hy)]
     unfold cQ.app S.after;cases d<;>simp only[fb,dh,S.put,e1,e2]
    rw[l];exact hj
   cases h
  cases h
 cases h
theorem VL{C:dM}(r:dU K.P C.cb){H:Nat->Option E}{v:V}(y: ∀k e,H k=some e->s.H k=some e)
  (z:s.get x=v) (h:FN C t H v l=some (e,m,c)) (a:ch m):dT K ⟨none,.call {callee:= .builtin .clear,args:= #[x],argTypes:= #[t]},ty,pos,af,g⟩ s (e.app s):=by
 unfold FN at h;split at h
 ·cases h
 rename_i i A;split at h
 ·rename_i n o;have B:K.P.underlying t=some (.slice n):=(r _ _ A).ig.2.2.2 n o;split at h
  ·cases h
  rename_i j D;obtain⟨Q,F,_⟩:=r _ _ D;split at h
  ·rename_i p;split at h
   ·rename_i G I;cases h;obtain⟨rfl,rfl,q,⟨L,rfl⟩,_⟩:=a;exact ZB x _ _ _ n _ _ _ z (y _ _ G) B F I p q L
   cases h
  cases h
 cases h
theorem WU{C:dM}(D:dU K.P C.cb){F:TypeId}{H:Nat->Option E}{v w:V}{G:List ct}{I:List df}(Q: ∀k e,H k=some e->s.H k=some e)(U:jU K.nt d=true)
  (W:s.get x=v) (Y:s.get y=w) (h:Gc C d t H v w G=some (e,I,n)) (o:ch I):dT K ⟨d,.call {callee:= .builtin .copy,args:= #[x,y],argTypes:= #[t,F]},ty,pos,af,g⟩ s (e.app s):=by
 unfold Gc at h;split at h
 ·cases h
 rename_i i b;split at h
 ·rename_i p q;have f:K.P.underlying t=some (.slice p):=(D _ _ b).ig.2.2.2 p q;split at h
  ·cases h
  rename_i j r;obtain⟨qH,u,_⟩:=D _ _ r;split at h
  ·rename_i k gen L z A a R m G M;split at h
   ·rename_i N c B l T hp;cases h;obtain⟨rfl,rfl,rfl,rfl,b7,⟨cD,rfl⟩,_⟩:=o;have r:=aaW (K:=K) (s:=s) (d:=d) (ty:=ty) (pos:=pos) (af:=af) (g:=g) (gen:=c) (size:=j.size) x y k z A p N F l a (gQ U) W (by rw[Y,<-M];exact tx w) (Q _ _ T) f u (by simpa[Nat.blt_eq] using hp) b7 cD
    have: ∀v e,cQ.app ⟨fb d v,[(k,some e)],[]⟩ s=({s with H:=aU s.H k (some e)}:S).put d v:=by intro v e;cases d<;>rfl
    rw[this];exact r
   cases h
  cases h
 cases h
theorem aaz{C:dM}(z:dU K.P C.cb)(Y:C.P=K.P)(M:C.G=K.G)(cH:C.nt=K.nt)(N:C.da=K.da){m:List V}{H:Nat->Option E}{b Q:List ct}{R:List df}
  (a:m=o.op.operands.toList.map s.get) (D: ∀k e,H k=some e->s.H k=some e) (L: ∀k,u k=false->s.u k=false) (h:G4 C o m H u b=some (e,R,Q)) (l:ch R):dT K o s (e.app s):=by
 obtain⟨d,U,ty,pos,af,g⟩:=o;unfold G4 at h;dsimp only at h;split at h
 ·cases h
 rename_i q;rw[cH] at q;have F: ∀{U:Op} {r:iS},m=U.operands.toList.map s.get->(match xg C.P C.cb H U m b with|some (v,R,b)=>some ((⟨fb d v,[],[]⟩:cQ),R,b)|none=>none)=some (e,R,Q)->dT K ⟨d,U,ty,pos,af,g⟩ s (e.app s):=by
  intro U r a h;split at h
  ·rename_i v agL agj n;cases h;rw[ot];rw[Y] at n;exact Uq (vals:=m) (gQ q) (fp.of_eq a.symm) ((aay z n l).sub D)
  cases h
 split at h
 ·split at h
  ·simp only[Op.operands,List.map_cons,List.map_nil,List.cons.injEq,and_true] at a;split at h
   ·exact WY q a.symm h
   exact Ys L q a.symm h
  cases h
 ·split at h
  ·rename_i i aI;exact VN z aI L q h
  cases h
 ·split at h
  ·simp only[Op.operands,List.map_cons,List.map_nil,List.cons.injEq,and_true] at a;split at h
   ·rename_i n;cases h;exact VG z rfl D a.1.symm a.2.symm n l
   exact UI z D a.1.symm a.2.symm h l
  cases h
 ·split at h
  ·simp only[Op.operands,List.map_cons,List.map_nil,List.cons.injEq,and_true] at a;exact WS z L q a.1.symm a.2.symm h l
  cases h
 ·split at h
  ·rename_i n;cases h;exact Yl z L q (by simpa[Op.operands] using a) n l
  exact WT z L q (by simpa[Op.operands] using a) h
 ·rename_i c;obtain⟨j,args,I⟩:=c;dsimp only at h;split at h
  ·rename_i f;split at h
   ·exact ZI Y M q D L (by simpa[Op.operands,Call.operands] using a) h l
   split at h
   ·exact Yt Y M q D (by simpa[Op.operands,Call.operands] using a) h l
   exact WX Y M q (by simpa[Op.operands,Call.operands] using a) h l
  ·split at h
   ·rename_i x y t T v w W A;have B:args= #[x,y]:=by rw[<-W]
    have p:I= #[t,T]:=by rw[<-A]
    subst B;subst p;simp only[Op.operands,Call.operands] at a;simp at a;split at h
    ·rename_i n;cases h;exact UK z N D q a.1.symm a.2.symm n l
    exact TX z D q a.1.symm a.2.symm h l
   cases h
  ·split at h
   ·rename_i x t v W A;have B:args= #[x]:=by rw[<-W]
    have p:I= #[t]:=by rw[<-A]
    subst B;subst p;simp only[Op.operands,Call.operands] at a;simp at a;exact VL z D a.symm h l
   cases h
  ·split at h
   ·rename_i x y t T v w W A;have B:args= #[x,y]:=by rw[<-W]
    have p:I= #[t,T]:=by rw[<-A]
    subst B;subst p;simp only[Op.operands,Call.operands] at a;simp at a;exact WU z D q a.1.symm a.2.symm h l
   cases h
  ·exact F (r:=none) a h
  cases h
 exact F (r:=none) a h
def aee:V->List Nat
 | .ref id _=>[id]
 | .bc id _ _ _ _=>[id]
 | .cB id _ _ _ _=>[id]
 |_=>[]
def GV:List V->List Nat
 | []=>[]
 |v::a=>aee v++GV a
def P0:List ct->List Nat
 | .nat k::a=>k::P0 a
 |_=>[]
def aed:List ct->List Nat
 | .b true::c=>P0 c
 | .nat k::_=>[k]
 | .int _:: .nat k::_=>[k]
 | .dI L a _ _::_=>L++a
 | .lt k _ _::_=>[k]
 |_=>[]
def ho(k:Nat):List Nat->Bool
 | []=>false
 |x::l=>bif Nat.beq x k then true else ho k l
theorem zR{k:Nat}: ∀{l:List Nat},ho k l=true->k∈l
 | [],h=>by cases h
 |x::l,h=>by
  simp only[ho] at h;cases a:Nat.beq x k with
  |true=>rw[cM a];exact eU
  |false=>rw[a] at h;exact ey _ (zR h)
def tV(a:List Nat)(H:Nat->Option E):Nat->Option E:=λk=>bif ho k a then H k else none
def tU(a:List Nat)(u:Nat->Bool):Nat->Bool:=λk=>bif ho k a then u k else true
theorem VS{H:Nat->Option E}{e:E}(h:tV r H k=some e):H k=some e:=by
 unfold tV at h;cases a:ho k r with
 |true=>rw[a] at h;exact h
 |false=>rw[a] at h;cases h
theorem UN(h:tU r u k=false):u k=false:=by
 unfold tU at h;cases a:ho k r with
 |true=>rw[a] at h;exact h
 |false=>rw[a] at h;cases h
def aa8:Op->List V->Bool
 | .nilCheck _,[.cB _ _ _ _ _]=>false
 | .move _,_| .assign _,_| .pick _ _ _,_| .nilCheck _,_| .binOp _ _ _ _ _,_| .unOp _ _ _,_| .convert _ _ _,_| .makeFunc _ _ _,_| .extract _ _,_| .field _ _ _,_| .build _ _,_=>true
 | .fieldAddr _ _ _,[.ref _ _]=>true
 |_,_=>false
def aa6:Op->Bool
 | .load _ _| .slice _ _ _ _ _| .fieldAddr _ _ _| .indexAddr _ _ _| .index _ _ _| .nilCheck _=>true
 | .call c=>match c.callee with
  | .builtin .len=>true
  | .builtin .max=>true
  | .builtin .min=>true
  |_=>false
 |_=>false
def uH(o:Oper)(a:List V)(c:List ct):List Nat:=match aa8 o.op a with
 |true=>[]
 |false=>match aa6 o.op with
  |true=>GV a
  |false=>GV a++aed c
def qf(C:dM)(o:Oper)(a:List V)(s:S)(c:List ct):iS:=G4 C o a (tV (uH o a c) s.H) (tU (uH o a c) s.u) c
def H6:Bool->Bool->Bool
 |true,true=>true
 |false,false=>true
 |_,_=>false
def uo(a:Array Oper)(j:Nat)(s:S):Option V:=match (a[j]?).bind (·.dst) with
 |some t=>some (s.t t)
 |none=>none
def r1(C:dM)(h:Array Oper)(o:Oper)(a:List ct)(s:S):iS:=
 match o.guard with
 |none=>qf C o (o.op.operands.toList.map s.get) s a
 |some (j,c)=>match uo h j s with
  |some (.bL [])=>match jU C.nt o.dst with
   |true=>some (⟨fb o.dst (.bL []),[],[]⟩,[],a)
   |false=>none
  |some (.t (.bool b))=>match a with
   | .b w::a=>match H6 w c with
    |true=>match qf C o (o.op.operands.toList.map s.get) s a with
     |some (e,i,a)=>some (e,.p (b=w)::i,a)
     |none=>none
    |false=>match jU C.nt o.dst with
     |true=>some (⟨fb o.dst (.bL []),[],[]⟩,[.p (b=w)],a)
     |false=>none
   |_=>none
  |_=>none
end
structure dM.Fits (C:dM) (K:Ctx):Prop where
 T:dU K.P C.cb
 P:C.P=K.P
 G:C.G=K.G
 nt:C.nt=K.nt
 da:C.da=K.da
 gM:C.gM=K.gM
section
variable {K:Ctx} {s:S} {C:dM}
theorem N5(a:C.Fits K)(h:qf C o (o.op.operands.toList.map s.get) s l=some (e,m,c))(i:ch m):dT K o s (e.app s):=
 aaz a.T a.P a.G a.nt a.da rfl (λ_ _ h=>VS h) (λ_ h=>UN h) h i
theorem Yy{w v:Bool}(h:H6 w v=true):w=v:=by cases w<;>cases v<;>first|rfl|cases h
theorem Xm{w v:Bool}(h:H6 w v=false):w= !v:=by cases w<;>cases v<;>first|rfl|cases h
theorem NP{a:Array Oper}{j:Nat}{v:V}(h:uo a j s=some v): ∃t,(a[j]?).bind (·.dst)=some t/\s.t t=v:=by
 unfold uo at h;split at h
 ·rename_i t c;exact⟨t,c,by cases h;rfl⟩
 cases h
theorem Oa(p:C.Fits K){V:Array Oper}(h:r1 C V o l s=some (e,m,c))(a:ch m):hU K V o s (e.app s):=by
 unfold r1 at h;split at h
 ·rename_i k;exact hU.of k (N5 p h a)
 rename_i j z k;split at h
 ·rename_i i;obtain⟨t,q,r⟩:=NP i;split at h
  ·rename_i x;cases h;rw[ot];exact hU.skip k q r (gQ (p.nt▸x))
  cases h
 ·rename_i b i;obtain⟨t,q,r⟩:=NP i;split at h
  ·rename_i w l;split at h
   ·rename_i hw;have hw:=Yy hw;subst hw;split at h
    ·rename_i D A B y;cases h;obtain⟨rfl,n⟩:=a;exact hU.gG k q r (N5 p y n)
    cases h
   rename_i hw;have hw:=Xm hw;subst hw;split at h
   ·rename_i x;cases h;obtain⟨rfl,_⟩:=a;rw[ot];exact hU.out k q r (gQ (p.nt▸x))
   cases h
  cases h
 cases h
theorem aao{V:Array Oper}{l:List Oper}{Q:S->Prop}(h:hU K V o s b)(k:p6 K V l b Q):p6 K V (o::l) s Q:=
 λβ a w c m n=>h β a w (wpList K.P V c l) c m λe p q i=>k e p q c i n
end
end Go.Lift
