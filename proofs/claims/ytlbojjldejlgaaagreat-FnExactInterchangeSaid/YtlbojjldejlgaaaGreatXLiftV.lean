/- Tools. -/
import Derived.Test.YtlbojjldejlgaaaGreatXLiftTV
namespace Go.Lift
open Go
section
variable {P:Program}{bQ:List (Nat×bO)}{H:Nat->Option E}{d:Option Tmp}{ty:TypeId}{pos:String}{af:Array Edge}{g:Option (Nat×Bool)}
variable {t:TypeId}{u:TypeDesc}{z:Value}{size bytes:Nat}
theorem uD(a:BinOp)(c:FE a=true)(x y:Operand)(t e:TypeId)(k:IntKind)(m n:Int):bK P H ⟨d,.binOp a t x y e,ty,pos,af,g⟩ [.t (.int k m),.t (.int k n)] (.t (.int k (bits a k m n))):=by
 intro h w X i _ b;refine⟨Value.int k (bits a k m n),?_,.t _ _ (.int k _)⟩;cases a<;>simp[FE] at c<;>
  simp[execOp,cW b.1,cW b.2.1,eqGuard,binOp,intBits_and,intBits_or,intBits_xor,intBits_andNot]
theorem RL(x y:Operand)(t b:TypeId)(m n:List UInt8):bK P H ⟨d,.binOp .lss t x y b,ty,pos,af,g⟩ [.t (.str m),.t (.str n)] (.t (.bool (Op.bytesLess m n))):=by intro c w X e _ a;refine⟨.bool (Op.bytesLess m n),?_,.t _ _ (.bool _)⟩;simp[execOp,fA a.1,fA a.2.1,eqGuard,binOp,Op.stringOp]
theorem RN(x y:Operand)(t b:TypeId)(m n:List UInt8):bK P H ⟨d,.binOp .gtr t x y b,ty,pos,af,g⟩ [.t (.str m),.t (.str n)] (.t (.bool (!Op.bytesLess m n&& !m==n))):=by intro c w X e _ a;refine⟨.bool (!Op.bytesLess m n&& !m==n),?_,.t _ _ (.bool _)⟩;simp[execOp,fA a.1,fA a.2.1,eqGuard,binOp,Op.stringOp]
theorem RM(x y:Operand)(t b:TypeId)(m n:List UInt8):bK P H ⟨d,.binOp .leq t x y b,ty,pos,af,g⟩ [.t (.str m),.t (.str n)] (.t (.bool (Op.bytesLess m n||m==n))):=by intro c w X e _ a;refine⟨.bool (Op.bytesLess m n||m==n),?_,.t _ _ (.bool _)⟩;simp[execOp,fA a.1,fA a.2.1,eqGuard,binOp,Op.stringOp]
theorem SR(x:Operand)(t:TypeId)(k:IntKind)(n:Int):bK P H ⟨d,.unOp .neg t x,ty,pos,af,g⟩ [.t (.int k n)] (.t (.int k (k.wrap (0-n)))):=by intro b w X c _ a;refine⟨.int k (k.wrap (0-n)),?_,.t _ _ (.int _ _)⟩;simp[execOp,cW a.1,Op.unary,Op.intArith]
theorem L2(x:Operand)(f:FuncId)(a:List V):bK P H ⟨d,.nilCheck x,ty,pos,af,g⟩ [.fn f a] (.fn f a):=by intro e w X b _ h;have c:aQ e w X (.fn f a) (b x):=h.1;refine⟨b x,?_,c⟩;generalize i:b x=y at c;cases c with|fn=>simp[execOp,i]
variable {a v:V}{x y:Operand}{e l:TypeId}{k n i b o p:List bV}{m c q:List cQ}{W:Map}{w:World}{X:Nat->Prop}
theorem PT{a:BinOp}{t:TypeId}{k:IntKind}{m n:Int}(h:zU a k m n i=some (v,c,b))(l:bS c):
  bK P H ⟨d,.binOp a t x y e,ty,pos,af,g⟩ [.t (.int k m),.t (.int k n)] v:=by
 cases a<;>simp only[zU,Gj,Option.some.injEq,Prod.mk.injEq,reduceCtorEq] at h<;>obtain⟨rfl,rfl,rfl⟩:=h
 ·exact S4 _ _ _ _ _ _ _
 ·exact RZ _ _ _ _ _ _ _
 ·exact SS _ _ _ _ _ _ _
 ·exact R1 _ _ _ _ _ _ _ l.1
 ·exact R0 _ _ _ _ _ _ _ l.1
 ·exact uD .and rfl _ _ _ _ _ _ _
 ·exact uD .or rfl _ _ _ _ _ _ _
 ·exact uD .xor rfl _ _ _ _ _ _ _
 ·exact uD .andNot rfl _ _ _ _ _ _ _
 ·exact S2 _ _ _ _ _ _ _
 ·exact SQ _ _ _ _ _ _ _
 ·exact SX _ _ _ _ _ _ _
 ·exact SY _ _ _ _ _ _ _
 ·exact SZ _ _ _ _ _ _ _
 exact S1 _ _ _ _ _ _ _
theorem PN{a:BinOp}{t:TypeId}{m n:List UInt8}(h:zP a m n i=some (v,c,b))(k:bS c):
  bK P H ⟨d,.binOp a t x y e,ty,pos,af,g⟩ [.t (.str m),.t (.str n)] v:=by
 unfold zP at h;split at h<;>cases h
 ·obtain⟨l,rfl⟩:=QH k.1;exact S3 _ _ _ _ _ _ l
 ·exact RP _ _ _ _ _ _
 ·exact RJ _ _ _ _ _ _
 ·exact RO _ _ _ _ _ _
 ·exact RL _ _ _ _ _ _
 ·exact RN _ _ _ _ _ _
 exact RM _ _ _ _ _ _
theorem D3(a:di P bQ)(h:zr (cS bQ t)=true):P.underlying t=some .bool:=by
 unfold zr at h;split at h
 ·rename_i i b;split at h
  ·rename_i c;exact(a _ _ b).gm.1 c
  cases h
 cases h
theorem yi(a:di P bQ)(h:rF (cS bQ t)=true):P.underlying t=some .string:=by
 unfold rF at h;split at h
 ·rename_i i b;split at h
  ·rename_i c;exact(a _ _ b).gm.2.2.1 c
  cases h
 cases h
theorem xW(a:di P bQ)(h:rN (cS bQ t)=true): ∃e,P.underlying t=some (.slice e):=by
 unfold rN at h;split at h
 ·rename_i i b;split at h
  ·rename_i e c;exact⟨e,(a _ _ b).gm.2.2.2 e c⟩
  cases h
 cases h
theorem qX{u:Value}(h:aQ W w X (.t .eN) u):u= .nilIface:=by cases h with|t _ _ h=>cases h with|eN=>rfl
theorem Fk{u:Value}(h:aQ W w X (.t .err) u): ∃t v,u= .iface t v:=by cases h with|t _ _ h=>cases h with|err t v=>exact⟨t,v,rfl⟩
theorem J0(w:World)(n:Nat){ms}(a:TypeId)(b:Value)(c:P.underlying t=some (.interface ms)):(Op.equalIn (n+1) t (.iface a b) .nilIface).run P w= .ok false w:=by simp[Op.equalIn,run_underlying c]
theorem JS(w:World)(n:Nat){ms}(a:P.underlying t=some (.interface ms)):(Op.equalIn (n+1) t .nilIface .nilIface).run P w= .ok true w:=by simp[Op.equalIn,run_underlying a]
theorem DJ(w:World){ms}(a:TypeId)(b:Value)(c:P.underlying t=some (.interface ms)):(Op.equal t (.iface a b) .nilIface).run P w= .ok false w:=J0 w 9999 a b c
theorem Dn(w:World){ms}(a:P.underlying t=some (.interface ms)):(Op.equal t .nilIface .nilIface).run P w= .ok true w:=JS w 9999 a
theorem Nu(a b):binOp .eql t (.iface a b) .nilIface=(do pure (.bool (<-Op.equal t (.iface a b) .nilIface))):=rfl
theorem Nt(a b):binOp .neq t (.iface a b) .nilIface=(do pure (.bool (!(<-Op.equal t (.iface a b) .nilIface)))):=rfl
theorem Ns:binOp .eql t .nilIface .nilIface=(do pure (.bool (<-Op.equal t .nilIface .nilIface))):=rfl
theorem Nr:binOp .neq t .nilIface .nilIface=(do pure (.bool (!(<-Op.equal t .nilIface .nilIface)))):=rfl
theorem DK(w:World)(o:BinOp)(x y:Operand)(a:(l1 x||l1 y)=true):(eqGuard o t x y .nilIface .nilIface).run P w= .ok () w:=by cases x<;>cases y<;>simp[l1] at a<;>simp[eqGuard]<;>split<;>simp
theorem RU(x y:Operand)(e:TypeId){ms}(h:P.underlying t=some (.interface ms)):bK P H ⟨d,.binOp .eql t x y e,ty,pos,af,g⟩ [.t .err,.t .eN] (.t (.bool false)):=by intro k w X l _ c;obtain⟨a,b,i⟩:=Fk c.1;refine⟨.bool false,?_,.t _ _ (.bool _)⟩;simp[execOp,i,qX c.2.1,eqGuard,Nu,DJ w a b h]
theorem RT(x y:Operand)(e:TypeId){ms}(h:P.underlying t=some (.interface ms)):bK P H ⟨d,.binOp .neq t x y e,ty,pos,af,g⟩ [.t .err,.t .eN] (.t (.bool true)):=by intro k w X l _ c;obtain⟨a,b,i⟩:=Fk c.1;refine⟨.bool true,?_,.t _ _ (.bool _)⟩;simp[execOp,i,qX c.2.1,eqGuard,Nt,DJ w a b h]
theorem RR(x y:Operand)(b:TypeId){ms}(c:P.underlying t=some (.interface ms))(e:(l1 x||l1 y)=true):bK P H ⟨d,.binOp .eql t x y b,ty,pos,af,g⟩ [.t .eN,.t .eN] (.t (.bool true)):=by intro h w X i _ a;refine⟨.bool true,?_,.t _ _ (.bool _)⟩;simp[execOp,qX a.1,qX a.2.1,DK w _ x y e,Ns,Dn w c]
theorem RQ(x y:Operand)(b:TypeId){ms}(c:P.underlying t=some (.interface ms))(e:(l1 x||l1 y)=true):bK P H ⟨d,.binOp .neq t x y b,ty,pos,af,g⟩ [.t .eN,.t .eN] (.t (.bool false)):=by intro h w X i _ a;refine⟨.bool false,?_,.t _ _ (.bool _)⟩;simp[execOp,qX a.1,qX a.2.1,DK w _ x y e,Nr,Dn w c]
theorem xX{a:List (Nat×bO)}(c:di P a)(h:z1 (cS a t)=true): ∃ms,P.underlying t=some (.interface ms):=by
 unfold z1 at h;split at h
 ·rename_i i e;split at h
  ·rename_i k;obtain⟨u,l,b⟩:=c _ _ e;simp only[bO.is,k] at b;obtain⟨m,rfl⟩:=b;exact⟨m,l.1⟩
  cases h
 cases h
theorem PU{c:List (Nat×bO)}(q:di P c){e:BinOp}{b:V}(h:zV c e t x y a b k=some (v,m,i)):
  bK P H ⟨d,.binOp e t x y l,ty,pos,af,g⟩ [a,b] v:=by
 unfold zV at h;split at h
 ·rename_i n p;obtain⟨ms,o⟩:=xX q n;cases h;exact RU _ _ _ o
 ·rename_i n p;obtain⟨ms,o⟩:=xX q n;cases h;exact RT _ _ _ o
 ·rename_i n p;obtain⟨ms,o⟩:=xX q n;cases h;exact RR _ _ _ o p
 ·rename_i n p;obtain⟨ms,o⟩:=xX q n;cases h;exact RQ _ _ _ o p
 cases h
theorem Kb(w:World)(n:Nat){e}(a:Addr)(l c:Nat)(b:P.underlying t=some (.slice e)):(Op.equalIn (n+1) t (.slice (some a) l c) (.slice none 0 0)).run P w= .ok false w:=by simp[Op.equalIn,run_underlying b]
theorem PK(w:World){e}(a:Addr)(l c:Nat)(b:P.underlying t=some (.slice e)):(Op.equal t (.slice (some a) l c) (.slice none 0 0)).run P w= .ok false w:=Kb w 9999 a l c b
theorem QI(a:Addr)(l c:Nat):binOp .eql t (.slice (some a) l c) (.slice none 0 0)=(do pure (.bool (<-Op.equal t (.slice (some a) l c) (.slice none 0 0)))):=rfl
theorem Qr(x y:Operand)(n:TypeId)(i:List (List T)){e}(o:P.underlying t=some (.slice e))(p:i≠[]):bK P H ⟨d,.binOp .eql t x y n,ty,pos,af,g⟩ [.t (.aa i),.t .ek] (.t (.bool false)):=by
 intro B w X k _ m;obtain⟨a,l,c,q⟩: ∃a l c,k x= .slice (some a) l c:=by
  cases m.1 with|t _ _ h=>
  generalize r:k x=u at h;cases h with
  |eI=>exact a6 rfl p
  |aa _ b s size v f=>exact⟨_,_,_,rfl⟩
 have A:k y= .slice none 0 0:=by
  cases m.2.1 with|t _ _ h=>
  generalize r:k y=u at h;cases h;rfl
 refine⟨.bool false,?_,.t _ _ (.bool _)⟩;simp[execOp,q,A,eqGuard,QI,PK w a l c o]
theorem PO{c:List (Nat×bO)}(p:di P c){k:BinOp}{b:V}(h:zQ c k t a b n=some (v,m,i))(o:bS m):
  bK P H ⟨d,.binOp k t x y l,ty,pos,af,g⟩ [a,b] v:=by
 unfold zQ at h;split at h
 ·rename_i q;obtain⟨e,r⟩:=xW p q;cases h;exact Qr _ _ _ _ r o.1
 cases h
theorem L5(x y:Operand)(e n c a k:Nat){u:TypeDesc}{z:Value}{i L:Nat}(l:P.underlying t=some (.array n e))(m:bN P e u z i L)(q:k<n):
  bK P H ⟨d,.indexAddr t x y,ty,pos,af,g⟩ [.ref c a,.t (.int .i64 (k:Int))] (.ref c (a+k*i)):=by
 intro r w X s v h;have cj:=cW h.2.1;obtain⟨b,o,p⟩:=o7 h.1;refine⟨.pointer (some ⟨b,a+k*i,none⟩),?_,.ref _ _ _ o⟩;simp[execOp,p,cj,Instr.indexAt,asIntOf,run_underlying l,m.run_sizeOf,gO,Instr.sureAddr]
 grind
theorem PI(A:di P bQ){e:BinOp}{t:TypeId}{b:V}(h:zO P bQ e t a b i=some (v,c,k))(m:bS c):
  bK P H ⟨d,.binOp e t x y l,ty,pos,af,g⟩ [a,b] v:=by
 unfold zO at h;split at h
 ·split at h
  ·rename_i B;subst B;exact PT h m
  cases h
 ·exact PN h m
 ·split at h
  ·rename_i n;cases h;exact RW _ _ _ _ _ (D3 A n)
  ·rename_i n;cases h;exact RV _ _ _ _ _ (D3 A n)
  cases h
 ·split at h
  ·rename_i ms o b i p q;cases h;obtain⟨r,s,w,_⟩:=m;rw[tf p,tf q,<-w];exact OB _ _ _ _ ms o r aY (by simp[s])
  ·rename_i ms o b i p q;cases h;obtain⟨r,s,w,_⟩:=m;rw[tf p,tf q,<-w];exact Oz _ _ _ _ ms o r aY (by simp[s])
  cases h
 cases h
theorem Q7{c:UnOp}(h:Aa c a i=some (v,m,b)):
  bK P H ⟨d,.unOp c t x,ty,pos,af,g⟩ [a] v:=by
 unfold Aa at h;split at h<;>cases h
 ·exact R2 _ _ _
 exact SR _ _ _ _
theorem LV(c:di P bQ){i:bO}(k:cS bQ t=some i)(h:yM bQ (some i)=true): ∃e,P.underlying t=some (.slice e)/\P.underlying e=some (.int .u8):=by
 unfold yM at h;split at h
 ·rename_i n a;cases a;split at h
  ·rename_i e l;split at h
   ·rename_i j m;split at h
    ·rename_i b;exact⟨e,(c _ _ k).gm.2.2.2 e l,(c _ _ m).gm.2.1 _ b⟩
    cases h
   cases h
  cases h
 cases h
theorem OS(w:di P bQ){c b:TypeId}(h:zk bQ c b a o=some (v,q,p))(r:bS q):
  bK P H ⟨d,.convert c b x,ty,pos,af,g⟩ [a] v:=by
 unfold zk at h;split at h
 ·rename_i i j C D;split at h
  ·rename_i G k n m o y;cases h;obtain⟨F,s,_⟩:=w _ _ C;have A:G.wrap n=m:=r.1;rw[<-A];exact Fq _ _ _ _ _ F _ s.1 ((w _ _ D).gm.2.1 _ y)
  ·rename_i k n m o y;cases h;have A:UInt8.ofInt n=m:=r.1;rw[<-A];obtain⟨F,s,_⟩:=w _ _ C
   have:=Fq (P:=P) (H:=H) (d:=d) (ty:=ty) (pos:=pos) (af:=af) (g:=g) x c b k .u8 F n s.1 ((w _ _ D).gm.2.1 _ y);rw[Qv] at this;exact this
  ·rename_i B l o y;split at h
   ·rename_i K;cases h;have A:B=l.map l4:=r.1;obtain⟨e,L,Q⟩:=LV w C K;rw[A];exact L7 _ _ _ _ _ L Q ((w _ _ D).gm.2.2.1 y)
   cases h
  cases h
 cases h
theorem Ld(x:Operand)(r gen i a:Nat)(s:TypeId)(sz:Nat)(k:List (List T))(e:List T)(L:bN P t u z size bytes)(Q:ix u=true)(D:H r=some (.arr s gen sz k))(o:k[i]? =some e)(V:a+size<=e.length):
  bK P H ⟨d,.load t x,ty,pos,af,g⟩ [.ca r gen sz i a] (.agg (((e.drop a).take size).map .t)):=by
 intro Y w X ρ F R;obtain⟨q,G⟩:=hi (F r _ D);obtain⟨b,y,W⟩:=la R.1 G;subst y;have aR:=G;rcases(F r _ D).2 with ⟨A,B⟩|⟨e3,C,A,B,h3,f,I⟩
 ·rw[B] at o;simp at o
 rw[aR] at A;cases A;have M:i<k.length:=(bt.1 o).1;have N:e.length=sz:=f e (bB o);have p: ∀j,j<size->i*sz+a+j<C.size:=by
  intro j n
  have:(i+1)*sz<=k.length*sz:=dn _ M;rw[dM] at this;omega
 have l: ∀j,j<size->w.cell? ⟨b,i*sz+a+j,none⟩=some (C.getD (i*sz+a+j) undef):=λj n=>by
  have:=p j n;simp[World.cell?,B,this]
 refine⟨_,by simp[execOp,W,Instr.loadAt,Instr.sureAddr,L.wM w Q l];rfl,?_⟩;refine .agg _ _ bY λj c v h K=>?_;have n:j<size:=by
  have:=(bt.1 h).1;simp at this;omega
 rw[dU,List.getElem?_take_of_lt n,fX] at h;simp only[List.getElem?_toArray,List.getElem?_map,List.getElem?_range n,Option.map_some,Option.some.injEq] at K;cases m:e[a+j]? with
 |none=>rw[m] at h;simp at h
 |some S=>
  rw[m] at h;simp at h;rw[<-h]
  have:=p j n;have U:=I i (a+j) e S C[i*sz+a+j] o m (by rw[<-nE];simp[this]);rw[<-K];simp only[Array.getElem?_eq_getElem this,Option.getD_some];exact .t _ _ U
theorem DI(F:di P bQ)(h:pA bQ H t a b=some (v,m,n))(s:bS m):
  bK P H ⟨d,.load t x,ty,pos,af,g⟩ [a] v:=by
 unfold pA at h;split at h
 ·cases h
 rename_i i G;obtain⟨K,p,e⟩:=(F _ _ G).agg;split at h
 ·rename_i id A;split at h
  ·rename_i cs q;split at h
   ·rename_i l;split at h
    ·rename_i o;cases h;exact Qs _ _ _ _ p (e.trans l) q o
    cases h
   rename_i l;split at h
   ·rename_i c B;cases h;exact Qt _ _ _ _ _ p (e.trans l) q B
   cases h
  cases h
 ·rename_i cs;split at h
  ·rename_i l;split at h
   ·rename_i o;cases h;exact Md _ _ p (e.trans l) (eb o)
   cases h
  rename_i l;split at h
  ·cases h;exact Me _ _ _ p (e.trans l)
  cases h
 ·rename_i id gen L k A;split at h
  ·rename_i w C y r b q l;split at h
   ·rename_i c B;cases h;obtain⟨rfl,rfl,D,_⟩:=s;exact Le _ _ _ _ _ _ _ _ _ _ p (e.trans l) q D B
   cases h
  ·rename_i w C y r b q l;split at h
   ·rename_i o;cases h;obtain⟨rfl,rfl,D,_⟩:=s;exact Ld _ _ _ _ _ _ _ _ _ p (e.trans l) q D (eb o)
   cases h
  cases h
 cases h
theorem Dk{j:Nat}: ∀{b:List (Nat×Nat×V)},nZ j b=none-> ∀i v,(i,j,v)∉b
 | [],_,_,_,h=>by cases h
 |h::b,a,i,v,hm=>by
  simp only[nZ] at a;cases c:Nat.beq h.2.1 j with
  |true=>rw[c] at a;cases a
  |false=>
   rw[c] at a;rcases dy.1 hm with rfl|hm
   ·simp at c
   exact Dk a i v hm
theorem Co{j:Nat}{x:Nat×V}: ∀{b:List (Nat×Nat×V)},nZ j b=some x->(x.1,j,x.2)∈b
 |h::b,a=>by
  simp only[nZ] at a;cases c:Nat.beq h.2.1 j with
  |true=>
   rw[c] at a;cases a
   have:=b9 c;subst this;exact ev
  |false=>rw[c] at a;exact dV _ (Co a)
theorem tk{Y:List (Nat×Nat×V)}{k:Nat}: ∀{n j:Nat} {l:List (Nat×V)},pq Y j n=some l->bS (nX k l)->l.length=n/\ ∀i v,(l.map (·.2))[i]? =some v->(k,j+i,v)∈Y
 |0,_,_,h,_=>by cases h;exact⟨rfl,λi v h=>by simp at h⟩
 |n+1,j,l,h,a=>by
  simp only[pq] at h;split at h
  ·rename_i x o c m;cases h;simp only[nX] at a;obtain⟨e,a⟩:=a;obtain⟨ay,a2⟩:=tk m a;refine⟨by simp[ay],λi v b=>?_⟩;cases i with
   |zero=>
    simp at b;subst b
    have:=Co c;rw[e] at this;exact this
   |succ i=>
    have:=a2 i v (by simpa using b)
    rwa [show j+1+i=j+(i+1) by omega] at this
  cases h
theorem M4(R:di P bQ){Q W:List bV}{N:List cQ}(h:y6 bQ H t a Q=some (v,N,W))(n:bS N):
  bK P H ⟨d,.load t x,ty,pos,af,g⟩ [a] v:=by
 unfold y6 at h;split at h
 ·rename_i i id gen S k G r Q K;obtain⟨T,w,e⟩:=(R _ _ K).agg;split at h
  ·rename_i y m A b L B;split at h
   ·rename_i s;split at h
    ·rename_i c C D;split at h
     ·rename_i X;cases h;obtain⟨rfl,o,p,_⟩:=n;exact wg _ _ _ _ _ y m _ b L r c _ w (e.trans s) B o p C (.inr ⟨λv=>Dk D _ _,X,rfl⟩)
     cases h
    ·rename_i c U Y C D;cases h;obtain⟨rfl,o,p,rfl,_⟩:=n;exact wg _ _ _ _ _ y m _ b _ r c _ w (e.trans s) B o p C (.inl (Co D))
    cases h
   rename_i s;split at h
   ·rename_i l f D;cases h;obtain⟨rfl,o,p,F⟩:=n;obtain⟨I,M⟩:=tk D F;exact JD _ _ _ _ _ y m _ b L r _ w (e.trans s) B o p (eb f) (by simp[I]) M
   cases h
  cases h
 ·rename_i i id gen S k G q r Q K;obtain⟨T,w,e⟩:=(R _ _ K).agg;split at h
  ·rename_i y m A b L B;split at h
   ·rename_i c U cn Y s C F;cases h;obtain⟨rfl,o,p,rfl,rfl,_⟩:=n;exact wg _ _ _ _ _ y m _ b _ r c _ w (e.trans s) B o p C (.inl (bB F))
   ·rename_i s;split at h
    ·rename_i l f D;cases h;obtain⟨rfl,o,p,F⟩:=n;obtain⟨I,M⟩:=tk D F;exact JD _ _ _ _ _ y m _ b L r _ w (e.trans s) B o p (eb f) (by simp[I]) λj v bG=>kc (M j v bG)
    cases h
   cases h
  cases h
 ·rename_i i id gen S k G q r Q K;obtain⟨T,w,e⟩:=(R _ _ K).agg;split at h
  ·rename_i y m A b L B;split at h
   ·rename_i c s C X;cases h;obtain⟨rfl,o,p,F⟩:=n;exact wg _ _ _ _ _ y m _ b _ r c _ w (e.trans s) B o p C (.inr ⟨tO F,X,rfl⟩)
   cases h
  cases h
 cases h
theorem M6(B:di P bQ){k:Nat}(h:y8 bQ H t k a n=some (v,c,b))(q:bS c):
  bK P H ⟨d,.fieldAddr t x k,ty,pos,af,g⟩ [a] v:=by
 unfold y8 at h;split at h
 ·cases h
 rename_i i F;split at h
 ·rename_i Q G;obtain⟨r,w,y,_⟩:=(B _ _ F).st G;have s:P.underlying t=some (.struct r):=w.1;split at h
  ·cases h
  rename_i C l;rw[<-y,dU] at l;cases p:r[k]? with
  |none=>rw[me,p] at l;cases l
  |some K=>
  rw[me,p] at l;simp only[Option.map_some,Option.some.injEq] at l;subst l;split at h
  ·cases h
  rename_i j L;obtain⟨R,m,_⟩:=B _ _ L;split at h
  ·cases h
  rename_i D;have o:(j.size==0)=false:=by
   rw[beq_eq_false_iff_ne];intro e;rw[e] at D;cases D
  split at h
  ·cases h;exact L6 _ _ _ _ _ _ _ _ _ _ _ s p rfl m o
  ·cases h;exact Mh _ _ _ _ _ _ _ _ _ _ s p rfl m o
  ·split at h
   ·rename_i A;cases h;obtain⟨rfl,rfl,_⟩:=q;exact Lg _ _ _ _ _ _ _ _ _ _ _ _ _ _ s p rfl m o _ _ A
   ·rename_i A;cases h;obtain⟨rfl,_⟩:=q;exact Lh _ _ _ _ _ _ _ _ _ _ _ _ _ _ s p rfl m o _ A rfl
   cases h
  cases h
 cases h
theorem PX(w:di P bQ){k:Nat}(h:zX bQ t k a n=some (v,c,b)):
  bK P H ⟨d,.field t x k,ty,pos,af,g⟩ [a] v:=by
 unfold zX at h;split at h
 ·cases h
 rename_i i A;split at h
 ·rename_i K B;obtain⟨q,l,r,_⟩:=(w _ _ A).st B;split at h
  ·cases h
  rename_i y e;rw[<-r,dU] at e;cases p:q[k]? with
  |none=>rw[me,p] at e;cases e
  |some C=>
  rw[me,p] at e;simp only[Option.map_some,Option.some.injEq] at e;subst e;split at h
  ·cases h
  rename_i j D;obtain⟨L,m,o⟩:=(w _ _ D).agg;split at h
  ·split at h
   ·rename_i s;split at h
    ·rename_i F;cases h;exact Ek _ _ _ _ _ _ l p m (.inl ⟨o.trans s,F,rfl⟩)
    cases h
   rename_i s;split at h
   ·rename_i G;cases h;exact Ek _ _ _ _ _ _ l p m (.inr ⟨o.trans s,G⟩)
   cases h
  cases h
 cases h
theorem iZ{n:Int}(h:0<=n):n=((n.toNat:Nat):Int):=O
theorem PV(F:di P bQ){b:V}(h:zW bQ H t a b o=some (v,c,p))(q:bS c):
  bK P H ⟨d,.indexAddr t x y,ty,pos,af,g⟩ [a,b] v:=by
 unfold zW at h;split at h
 ·cases h
 rename_i i f;split at h
 ·rename_i e G;have B:P.underlying t=some (.slice e):=(F _ _ f).gm.2.2.2 e G;split at h
  ·cases h
  rename_i j K;obtain⟨I,C,_⟩:=F _ _ K;split at h
  ·rename_i l n;split at h
   ·rename_i r o;split at h
    ·rename_i w;cases h;obtain⟨L,Q⟩:=ll (show aD l n=some r from q.1);rw[iZ L];exact Mg _ _ _ _ _ _ B C Q (b9 w)
    cases h
   cases h
  ·rename_i id gen size A len n;split at h
   ·rename_i s M l R w;cases h;obtain⟨rfl,rfl,⟨L,Q⟩,_⟩:=q;have W:n.toNat<len:=O
    have:=b9 w;subst this;have N:=L4 (P:=P) (H:=H) (d:=d) (ty:=ty) (pos:=pos) (af:=af) (g:=g) x y e id s A len n.toNat _ _ R B C W
    grind
   ·rename_i m s l S R w;cases h;obtain⟨rfl,⟨L,Q⟩,_⟩:=q;have W:n.toNat<len:=O
    have:=b9 w;subst this;have N:=Lf (P:=P) (H:=H) (d:=d) (ty:=ty) (pos:=pos) (af:=af) (g:=g) x y e id _ A len n.toNat _ R rfl B C W
    grind
   cases h
  cases h
 ·rename_i m e G;obtain⟨T,X,D⟩:=F _ _ f;have B:P.underlying t=some (.array m e):=by
   simp only[bO.is,G] at D;rw[<-D];exact X.1
  split at h
  ·cases h
  rename_i j K;obtain⟨I,C,_⟩:=F _ _ K;split at h
  ·rename_i id A n k o;split at h
   ·rename_i w;cases h;rw[show n=(k:Int) from q.1];exact L5 _ _ _ _ _ _ _ B C (eb w)
   cases h
  cases h
 cases h
theorem M5(o:di P bQ){b:V}(h:y7 bQ t a b k=some (v,m,i))(e:bS m):
  bK P H ⟨d,.index t x y,ty,pos,af,g⟩ [a,b] v:=by
 unfold y7 at h;split at h
 ·rename_i l n c k p;cases h;obtain⟨q,r⟩:=ll (show aD l n=some c from e.1);rw[iZ q];exact Oy _ _ _ _ _ (yi o p) r
 cases h
theorem PS(n:di P bQ)(h:zT bQ H t a i=some (v,c,b))(k:bS c):
  bK P H ⟨d,.call {callee:= .builtin .len,args:= #[x],argTypes:= #[t]},ty,pos,af,g⟩ [a] v:=by
 unfold zT at h;split at h
 ·split at h
  ·rename_i l;cases h;exact N7 _ _ (yi n l)
  cases h
 ·split at h
  ·rename_i l;cases h;obtain⟨e,m⟩:=xW n l;have p:=k.1;rw[<-p];exact OA _ _ _ m
  cases h
 ·split at h
  ·rename_i o l;cases h;obtain⟨rfl,rfl,rfl,_⟩:=k;obtain⟨e,m⟩:=xW n l;exact N8 _ _ _ _ _ _ _ m _ _ o
  ·rename_i o l;cases h;obtain⟨rfl,rfl,_⟩:=k;obtain⟨e,m⟩:=xW n l;exact Mf _ _ _ _ _ _ _ m _ o rfl
  cases h
 cases h
theorem M3(F:di P bQ){s y:Option Operand}{A:List V}{W S:List bV}{jB:List cQ}(h:y5 bQ H t s y A W=some (v,jB,S))(n:bS jB):
  bK P H ⟨d,.slice t x s y none,ty,pos,af,g⟩ A v:=by
 unfold y5 at h;split at h
 ·rename_i l I;split at h
  ·rename_i a b r W T c;cases h;obtain⟨k,U,M,rfl⟩:=xA n.1;have p:=yi F T;unfold n0 at c;split at c
   ·cases c;rw[iZ k,iZ (O:0<=b)];exact L0 _ _ _ _ _ _ p O O
   ·cases c
    have:=JR (P:=P) (H:=H) (d:=d) (ty:=ty) (pos:=pos) (af:=af) (g:=g) x ‹_› l a.toNat p O;rw[<-iZ k] at this;simpa using this
   ·cases c
    have:=J8 (P:=P) (H:=H) (d:=d) (ty:=ty) (pos:=pos) (af:=af) (g:=g) x ‹_› l b.toNat p O
    grind
   cases c
  cases h
 ·rename_i B I;split at h
  ·cases h
  rename_i i G;split at h
  ·rename_i e Y;have p:P.underlying t=some (.slice e):=(F _ _ G).gm.2.2.2 e Y;split at h
   ·rename_i j a b r W K c;cases h;obtain⟨f,C,_⟩:=n;obtain⟨k,U,M,rfl⟩:=xA f;obtain⟨mX,q,_⟩:=F _ _ K;unfold n0 at c;split at c
    ·cases c;rw[iZ k,iZ (O:0<=b)];exact Ma _ _ _ _ _ _ _ p q O O C
    ·cases c
     have:=JX (P:=P) (H:=H) (d:=d) (ty:=ty) (pos:=pos) (af:=af) (g:=g) x ‹_› e B a.toNat p q O C;rw[<-iZ k] at this;simpa using this
    ·cases c
     have:=KV (P:=P) (H:=H) (d:=d) (ty:=ty) (pos:=pos) (af:=af) (g:=g) x ‹_› e B b.toNat p q O C
     grind
    cases c
   cases h
  cases h
 ·rename_i id Xg sz L len I;split at h
  ·rename_i i jc G N;split at h
   ·rename_i e Y;have p:P.underlying t=some (.slice e):=(F _ _ G).gm.2.2.2 e Y;obtain⟨Am,hH,N⟩:=wZ.1 N;have Q: ∀{a b:Int},n0 s y len I=some (a,b)->0<=a->0<=b-> ∀β w X (D:Operand->Value),cF β w X I (s.toList.map D++y.toList.map D)->mF len s y D a.toNat b.toNat:=by
     intro a b c f k β w X D C;unfold n0 at c;split at c
     ·cases c;refine⟨?_,?_⟩
      ·show D _=_;rw[tG f];exact cW C.1
      show D _=_;rw[tG k];exact cW C.2.1
     ·cases c;refine⟨?_,by show _=_;simp⟩;show D _=_;rw[tG f];exact cW C.1
     ·cases c;refine⟨by show _=_;simp,?_⟩;show D _=_;rw[tG k];exact cW C.1
     cases c
    split at h
    ·rename_i j a b o m W K c;cases h;obtain⟨rfl,rfl,⟨k,U,M,h4,rfl,rfl⟩,_⟩:=n;obtain⟨mX,q,_⟩:=F _ _ K;exact RI x s y e id _ L len a.toNat b.toNat Am hH N p q O O O (Q c k O)
    ·rename_i j a b W K c;cases h;obtain⟨rfl,⟨k,rfl,M⟩,_⟩:=n;obtain⟨mX,q,_⟩:=F _ _ K;exact Qq x s y e id _ _ L len a.toNat Am hH N p q O (Q c k k)
    ·rename_i j a b o m W K c;split at h
     ·rename_i R;cases h;obtain⟨rfl,rfl,rfl,⟨f,k,U,M,rfl,rfl⟩,_⟩:=n;obtain⟨mX,q,_⟩:=F _ _ K;exact Qp x s y e _ id _ L len a.toNat b.toNat _ R p q f O O (Q c k O)
     cases h
    cases h
   cases h
  cases h
 cases h
theorem LL(A:di P bQ){l m:Operand}{k:List V}(h:yR bQ H t k o=some (v,q,n))(p:bS q):
  bK P H ⟨d,.slice t x (some y) (some l) (some m),ty,pos,af,g⟩ k v:=by
 unfold yR at h;split at h
 ·rename_i id Q R r len a b c;split at h
  ·rename_i i W s w;split at h
   ·rename_i e B;have C:P.underlying t=some (.slice e):=(A _ _ s).gm.2.2.2 e B;obtain⟨D,F,w⟩:=wZ.1 w;split at h
    ·rename_i j G;cases h;obtain⟨rfl,⟨K,X,f,I⟩,_⟩:=p;obtain⟨M,L,_⟩:=A _ _ G;rw[iZ K,iZ (O:0<=b),iZ (O:0<=c)];exact Ox x y l m e id _ _ r len a.toNat b.toNat c.toNat D F w C L O O O
    cases h
   cases h
  cases h
 cases h
theorem OT(o:di P bQ){c:Operand}{a:List V}(h:zl bQ t a k=some (v,m,b))(l:bS m):
  bK P H ⟨d,.slice t x none (some c) (some y),ty,pos,af,g⟩ a v:=by
 unfold zl at h;split at h
 ·split at h
  ·rename_i i n;split at h
   ·rename_i e p;have q:P.underlying t=some (.slice e):=(o _ _ n).gm.2.2.2 e p;split at h
    ·rename_i j r;cases h;obtain⟨⟨s,rfl⟩,w,_⟩:=l;obtain⟨C,D,A,rfl⟩:=xA s;obtain⟨F,B,_⟩:=o _ _ r
     have:=Lb (P:=P) (H:=H) (d:=d) (ty:=ty) (pos:=pos) (af:=af) (g:=g) x c y e _ _ q B (Int.toNat_le.2 A) w
     grind
    cases h
   cases h
  cases h
 cases h
theorem Lo(o:di P bQ){b:Builtin}{c:List TypeId}{e:List Operand}{a:List V}(h:yl bQ H b c e a k=some (v,m,i))(l:bS m):
  bK P H ⟨d,.call {callee:= .builtin b,args:=e.toArray,argTypes:=c.toArray},ty,pos,af,g⟩ a v:=by
 unfold yl at h;split at h
 ·exact PS o h l
 ·split at h
  ·rename_i n;subst n;cases h;exact SV _ _ _ _ _ _
  cases h
 ·split at h
  ·rename_i n;subst n;cases h;exact SU _ _ _ _ _ _
  cases h
 cases h
theorem PQ(h:zR H a i=some (v,c,b))(e:bS c):bK P H ⟨d,.nilCheck x,ty,pos,af,g⟩ [a] v:=by
 unfold zR at h;split at h
 ·split at h
  ·rename_i n k;cases h;obtain⟨rfl,_⟩:=e;obtain⟨l,m,k⟩:=wZ.1 k;exact L3 _ _ _ _ _ _ l m k
  cases h
 ·cases h;exact C8 _ _ rfl
 ·cases h;exact C8 _ _ rfl
 ·cases h;exact L2 _ _ _
 cases h
theorem MQ(o:di P bQ){b:Array (Nat×Operand)}{a:List V}(h:y' bQ t (b.toList.map (·.1)) a n=some (v,c,k)):
  bK P H ⟨d,.build t b,ty,pos,af,g⟩ a v:=by
 unfold y' at h;split at h
 ·cases h
 rename_i i p;split at h
 ·rename_i x q;split at h
  ·rename_i cs r s w;cases h;obtain⟨e,l,_,m⟩:=(o _ _ p).st q;exact Qu b e i.places a cs l m r (by simpa using s) w
  cases h
 cases h
theorem R4(n:di P bQ){e:Op}{a:List V}(h:r6 P bQ H e a k=some (v,m,i))(l:bS m):
  bK P H ⟨d,e,ty,pos,af,g⟩ a v:=by
 unfold r6 at h;split at h
 ·split at h
  ·cases h;exact RS _ _
  cases h
 ·split at h
  ·cases h;exact Ob _ _
  cases h
 ·split at h
  ·rename_i b v w c k;cases h;obtain⟨s,_⟩:=l;subst s;cases b
   ·exact Lc _ _ _ _ _
   exact L1 _ _ _ _ _
  cases h
 ·split at h
  ·split at h
   ·rename_i x;cases h;exact DI n x l
   exact M4 n h l
  cases h
 ·split at h
  ·exact PQ h l
  cases h
 ·split at h
  ·split at h
   ·rename_i r p;cases h;exact PI n p l
   split at h
   ·rename_i r p;cases h;exact PU n p
   exact PO n h l
  cases h
 ·split at h
  ·exact Q7 h
  cases h
 ·split at h
  ·exact OS n h l
  cases h
 ·rename_i C first q
  split at h
  ·rename_i f y;cases h
   have:first= #[]:=by simpa using y
   subst this;exact Mc _ _ _
  cases h
 ·split at h
  ·exact M3 n h l
  split at h
  ·exact LL n h l
  ·exact OT n h l
  cases h
 ·split at h
  ·exact M6 n h l
  cases h
 ·split at h
  ·exact PX n h
  cases h
 ·split at h
  ·exact PV n h l
  cases h
 ·split at h
  ·exact M5 n h l
  cases h
 ·split at h
  ·split at h
   ·rename_i A;cases h;exact N9 _ _ _ _ A
   cases h
  cases h
 ·exact MQ n h
 ·rename_i c;obtain⟨o,args,B⟩:=c;dsimp only at h;split at h
  ·have:=Lo (d:=d) (ty:=ty) (pos:=pos) (af:=af) (g:=g) n h l;simpa using this
  cases h
 cases h
end
section
def hE(P:Program)(G:ee)(f:FuncId)(args:List V)(r:V):Prop:=hL P f/\yx P G f args r
def gM(P:Program)(G:ee)(f:FuncId)(a:List E)(args:List V)(r:V)(b:List E):Prop:=
 hL P f/\Dm P G f a args (ι:=Unit) (λ_=>True) (λ_=>r) λ_=>b
def et(d:Option Tmp)(v:V):List (Nat×V):=match d with
 |some d=>[(d,v)]
 |none=>[]
def hK(a:Nat):Option Tmp->Bool
 |some d=>Nat.blt d a
 |none=>true
theorem fu{K:Ctx}{d:Option Tmp}(h:hK K.nt d=true): ∀i,d=some i->Nat.blt i K.nt=true:=by intro i a;subst a;exact h
def gC:T->T
 | .ek=> .aa []
 |x=>x
variable {w:World}{X:Nat->Prop}{m:Nat}
theorem b8.s0{x:T}{v:Value}(h:b8 w X x v):b8 w X (gC x) v:=by
 cases h with
 |ek=>exact .eI _ _
 |bool b=>exact .bool b
 |int k n=>exact .int k n
 |str l=>exact .str l
 |eI a c=>exact .eI a c
 |aa e b m size c f p q i o r y=>exact .aa e b m size c f p q i o r y
 |gU=>exact .gU
 |eN=>exact .eN
 |jo=>exact .jo
 |err t v=>exact .err t v
theorem QN{W:Map}{k:Nat}{c:TypeId}{gen n:Nat}{z:List T}(h:b4 W w X k (.arr c gen n (List.replicate m z))):b4 W w X k (.arr c gen n (List.replicate m (z.map gC))):=by
 refine⟨h.1,?_⟩;rcases h.2 with ⟨q,l⟩|⟨b,r,q,l,v,C,A⟩
 ·have:m=0:=by simpa using l
  grind
 refine .inr ⟨b,r,q,l,by simpa using v,λo a=>?_,λi j o x u a e B=>?_⟩
 ·obtain⟨D,rfl⟩:=ra.1 a
  grind
 rw[q'] at a;split at a
 ·cases a;rw[dU] at e;cases p:z[j]? with
  |none=>rw[p] at e;simp at e
  |some y=>
   rw[p] at e;simp at e;subst e;exact(A i j z y u (by rw[q',bh ‹_›]) p B).s0
 cases a
def js(a:Nat):Nat->List T->List (List T)
 |0,_=>[]
 |n+1,l=>l.take a::js a n (l.drop a)
theorem tX(a:Nat): ∀(n:Nat) (l:List T),l.length=n*a->(js a n l).length=n/\(∀b,b∈js a n l->b.length=a)/\(js a n l).flatten=l
 |0,l,h=>by
  have:l=[]:=by simpa using h
  subst this;exact⟨rfl,λ_ h=>by simp[js] at h,rfl⟩
 |n+1,l,h=>by
  rw[dM] at h;obtain⟨c,e,i⟩:=tX a n (l.drop a) bY;refine⟨by simp[js,c],?_,by simp[js,i]⟩;intro b bH;simp only[js,List.mem_cons] at bH;rcases bH with rfl|bH
  ·simp;omega
  exact e b bH
structure db where
 P:Program
 G:ee
 bQ:List (Nat×bO)
 nt:Nat
 cB:Nat
 fZ:Map
def pU(a:Nat):List Nat->Nat->Option Nat
 | [],_=>none
 |x::r,k=>bif Nat.beq x a then some k else pU a r (k+1)
theorem xG{i:Nat}: ∀{L:List Nat} {k m:Nat},pU i L k=some m->k<=m/\L[m-k]? =some i
 | [],_,_,h=>by cases h
 |x::r,k,m,h=>by
  simp only[pU] at h;cases a:Nat.beq x i with
  |true=>rw[a] at h;cases h;rw[b9 a];exact⟨cL _,aY⟩
  |false=>
   rw[a] at h;obtain⟨c,b⟩:=xG (L:=r) (k:=k+1) h;refine⟨O,?_⟩;rw[show m-k=(m-(k+1))+1 by omega];simpa using b
mutual
def pb(L:List Nat):V->Option V
 | .ref id a=>match pU id L 0 with
  |some k=>some (.ref k a)
  |none=>none
 | .aM id gen size a len=>match pU id L 0 with
  |some k=>some (.aM k gen size a len)
  |none=>none
 | .fn f cs=>match pa L cs with
  |some cs=>some (.fn f cs)
  |none=>none
 | .ca id gen size i a=>match pU id L 0 with
  |some k=>some (.ca k gen size i a)
  |none=>none
 | .t x=>some (.t x)
 | .aT x=>some (.aT x)
 | .agg cs=>match pa L cs with
  |some cs=>some (.agg cs)
  |none=>none
 |_=>none
def pa(L:List Nat):List V->Option (List V)
 | []=>some []
 |c::cs=>match pb L c,pa L cs with
  |some c,some cs=>some (c::cs)
  |_,_=>none
end
mutual
theorem RD{L:List Nat}: ∀(v c:V),pb L v=some c->c.c6 L=v/\c.ok (ef L.length)=true
 | .ref id m,c,h=>by
  simp only[pb] at h;split at h
  ·rename_i k n;cases h;obtain⟨_,a⟩:=xG n;simp only[Nat.sub_zero] at a;have b:=(bt.1 a).1;exact⟨by simp[V.c6,List.getD_eq_getElem?_getD,a],gN.2 b⟩
  cases h
 | .aM id gen size m len,c,h=>by
  simp only[pb] at h;split at h
  ·rename_i k n;cases h;obtain⟨_,a⟩:=xG n;simp only[Nat.sub_zero] at a;have b:=(bt.1 a).1;exact⟨by simp[V.c6,List.getD_eq_getElem?_getD,a],gN.2 b⟩
  cases h
 | .ca id gen size i m,c,h=>by
  simp only[pb] at h;split at h
  ·rename_i k n;cases h;obtain⟨_,a⟩:=xG n;simp only[Nat.sub_zero] at a;have b:=(bt.1 a).1;exact⟨by simp[V.c6,List.getD_eq_getElem?_getD,a],gN.2 b⟩
  cases h
 | .fn f cs,c,h=>by
  simp only[pb] at h;split at h
  ·rename_i e l;cases h;obtain⟨o,a⟩:=rz cs e l;exact⟨by simp[V.c6,o],by simpa[V.ok] using a⟩
  cases h
 | .agg cs,c,h=>by
  simp only[pb] at h;split at h
  ·rename_i e l;cases h;obtain⟨o,a⟩:=rz cs e l;exact⟨by simp[V.c6,o],by simpa[V.ok] using a⟩
  cases h
 | .t x,c,h=>by cases h;exact⟨rfl,rfl⟩
 | .aT x,c,h=>by cases h;exact⟨rfl,rfl⟩
 | .bI _,_,h| .cr,_,h=>by cases h
theorem rz{L:List Nat}: ∀(cs a:List V),pa L cs=some a->gA L a=cs/\e6 (ef L.length) a=true
 | [],_,h=>by cases h;exact⟨rfl,rfl⟩
 |c::cs,a,h=>by
  simp only[pa] at h;split at h
  ·rename_i e b i k;cases h;obtain⟨ay,a2⟩:=RD c e i;obtain⟨l,m⟩:=rz cs b k;exact⟨by simp[gA,ay,l],by simp[e6,a2,m]⟩
  cases h
end
def pT(L:List Nat)(H:Nat->Option E):List Nat->Option (List E)
 | []=>some []
 |id::b=>match H id with
  |some (.cells cs)=>match pa L cs,pT L H b with
   |some cs,some c=>some (.cells cs::c)
   |_,_=>none
  |some (.arr ty gen size a)=>match pT L H b with
   |some c=>some (.arr ty gen size a::c)
   |none=>none
  |some (.aw e m gen a [])=>match pT L H b with
   |some c=>some (.aw e m gen a []::c)
   |none=>none
  |some (.aw _ _ _ _ (_::_))=>none
  |none=>none
theorem xY{L:List Nat}{H:Nat->Option E}: ∀(a:List Nat) (er:List E),pT L H a=some er->er.length=a.length/\ ∀(k:Nat) (e:E),er[k]? =some e-> ∃id,a[k]? =some id/\H id=some (e.c6 L)/\e.ok (ef L.length)=true
 | [],_,h=>by cases h;exact⟨rfl,λk e h=>by simp at h⟩
 |id::a,er,h=>by
  simp only[pT] at h;split at h
  ·rename_i cs hid;split at h
   ·rename_i q i r l;cases h;obtain⟨ay,a2⟩:=xY a i l;obtain⟨v,w⟩:=rz cs q r;refine⟨by simp[ay],λk e b=>?_⟩;cases k with
    |zero=>simp at b;subst b;exact⟨id,rfl,by rw[hid];simp only[E.c6,v],w⟩
    |succ k=>simp at b;obtain⟨c,n,o⟩:=a2 k e b;exact⟨c,by simpa using n,o⟩
   cases h
  ·rename_i ty gen size p hid;split at h
   ·rename_i i l;cases h;obtain⟨ay,a2⟩:=xY a i l;refine⟨by simp[ay],λk e b=>?_⟩;cases k with
    |zero=>simp at b;subst b;exact⟨id,rfl,hid,rfl⟩
    |succ k=>simp at b;obtain⟨c,n,o⟩:=a2 k e b;exact⟨c,by simpa using n,o⟩
   cases h
  ·rename_i x m gen p hid;split at h
   ·rename_i i l;cases h;obtain⟨ay,a2⟩:=xY a i l;refine⟨by simp[ay],λk e b=>?_⟩;cases k with
    |zero=>simp at b;subst b;exact⟨id,rfl,hid,rfl⟩
    |succ k=>simp at b;obtain⟨c,n,o⟩:=a2 k e b;exact⟨c,by simpa using n,o⟩
   cases h
  ·cases h
  cases h
def uU(a:Nat):List Nat->Bool
 | []=>true
 |x::l=>bif Nat.beq x a then false else uU a l
theorem DF{i:Nat}: ∀{l:List Nat},uU i l=true->i∉l
 | [],_,h=>by cases h
 |x::l,h,hm=>by
  simp only[uU] at h;cases a:Nat.beq x i with
  |true=>rw[a] at h;cases h
  |false=>
   rw[a] at h;rcases dy.1 hm with rfl|hm
   ·simp at a
   exact DF h hm
def uO:List Nat->Bool
 | []=>true
 |x::l=>uU x l&&uO l
theorem v6: ∀{l:List Nat},uO l=true->l.Nodup
 | [],_=>List.nodup_nil
 |x::l,h=>by simp only[uO,Bool.and_eq_true] at h;exact List.nodup_cons.2 ⟨DF h.1,v6 h.2⟩
def tY(u:Nat->Bool):List Nat->Bool
 | []=>true
 |x::l=> !u x&&tY u l
theorem C6{u:Nat->Bool}: ∀{l:List Nat},tY u l=true-> ∀id,id∈l->u id=false
 | [],_,_,h=>by cases h
 |x::l,h,id,hm=>by
  simp only[tY,Bool.and_eq_true,Bool.not_eq_true'] at h;rcases dy.1 hm with rfl|hm
  ·exact h.1
  exact C6 h.2 id hm
theorem C9{u:Nat->Bool}{i:Nat}: ∀{l:List Nat},i∈l->cK u (l.map λk=>(k,true)) i=true
 |x::l,h=>by
  simp only[List.map_cons,cK];by_cases a:i∈l
  ·rw[uc _ _ u _ ⟨true,fU.2 ⟨i,a,rfl⟩⟩];exact C9 a
  rcases dy.1 h with rfl|h
  ·rw[jM _ _ _ (λv b=>a (by obtain⟨y,c,e⟩:=fU.1 b;cases e;exact c)),bs]
  exact a6 h a
theorem C7{R:Type}: ∀(L:List Nat),L.Nodup-> ∀(f:Nat->R) (a:List R) (g:Nat->R),a.length=L.length->(∀(k:Nat) x,a[k]? =some x->g k=x)->cK f (L.zip a)=iH f L g
 | [],_,f,a,g,_,_=>by simp[cK,iH]
 |l::L,b,f,[],g,h,_=>by simp at h
 |l::L,b,f,x::a,g,h,m=>by
  simp only[List.nodup_cons] at b;simp only[List.zip_cons_cons,cK,iH];rw[C7 L b.2 (aE f l x) a (λk=>g (k+1)) (by simpa using h) (λk y o=>m (k+1) y (by simpa using o)),m 0 x rfl];funext i;by_cases c:i=l
  ·subst c;rw[kz b.1,bs,bs]
  rw[bu _ _ _ _ c];by_cases e:i∈L
  ·obtain⟨k,n⟩:=ht.1 e;rw[k1 b.2 n,k1 b.2 n]
  rw[kz e,kz e,bu _ _ _ _ c]
abbrev gL:=Option (cg×List cQ×List bV)
def pL(d:Option Tmp)(u:Nat->Bool)(v:V)(a:List bV):gL:=
 match a with
 | .nat k::a=>match u k,v.val with
  |false,true=>some (⟨et d (.ref k 0),[(k,some (.cells v.cs))],[(k,true)]⟩,[],a)
  |_,_=>none
 |_=>none
def zn(d:Option Tmp)(v:V)(a:List bV):gL:=
 match a with
 | .b true::a=>match (kK v).val,iS (kK v).cs with
  |true,some c=>some (⟨et d (.aT c),[],[]⟩,[],a)
  |_,_=>none
 |_=>none
def Hv:List bV->Bool
 | .b true::_=>true
 |_=>false
def y4(C:db)(t:TypeId)(H:Nat->Option E)(a v:V)(n:List bV):gL:=
 match cS C.bQ t with
 |none=>none
 |some i=>match a with
  | .ref id b=>match H id with
   |some (.cells cs)=>match v.val,kL v.cs,Nat.beq v.cs.length i.size,Nat.ble (b+i.size) cs.length with
    |true,true,true,true=>some (⟨[],[(id,some (.cells (j' cs b v.cs)))],[]⟩,[],n)
    |_,_,_,_=>none
   |_=>none
  | .ca id gen w k b=>match H id,iS (kK v).cs,n with
   |some (.arr e h m l),some o,.row r:: .rows c::n=>match (kK v).val,Nat.beq o.length i.size,Nat.ble (b+i.size) w with
    |true,true,true=>some (⟨[],[(id,some (.arr e h m c))],[]⟩,
      [.q h gen,.q m w,.p (l[k]? =some r),.p (c=l.set k (r.take b++o++r.drop (b+o.length)))],n)
    |_,_,_=>none
   |_,_,_=>none
  |_=>none
def pJ(k a n:Nat):List (Nat×Nat×V)->List cQ
 | []=>[]
 |h::b=>bif Nat.ble a h.2.1&&Nat.blt h.2.1 (a+n) then .q h.1 k::pJ k a n b else pJ k a n b
def pN(k a n:Nat):List (Nat×Nat×V)->List cQ
 | []=>[]
 |h::b=>bif Nat.ble a h.2.1&&Nat.blt h.2.1 (a+n) then .p (h.1≠k)::pN k a n b else pN k a n b
def yQ(C:db)(t:TypeId)(H:Nat->Option E)(a v:V)(o:List bV):gL:=
 match cS C.bQ t,a,o with
 |some i,.ca id gen x k b,.row r::o=>match H id with
  |some (.aw w m c e h)=>match v.val&&(kL v.cs&&(Nat.beq v.cs.length i.size&&(Nat.ble (b+i.size) r.length&&Nat.blt 0 i.size))),pq h b i.size with
   |true,some l=>some (⟨[],[(id,some (.aw w m c e (mr b v.cs h)))],[]⟩,.q c gen:: .q (Y w m).size x:: .p (e[k]? =some r)::(nX k l++pJ k b i.size h),o)
   |_,_=>none
  |_=>none
 |some i,.ca id gen x k b,.int q:: .nat n:: .row r::o=>match H id with
  |some (.aw w m c e h)=>match v.val&&(kL v.cs&&(Nat.beq v.cs.length i.size&&(Nat.ble (b+i.size) r.length&&Nat.blt 0 i.size))),pq ((h.drop q.toNat).take n) b i.size with
   |true,some l=>some (⟨[],[(id,some (.aw w m c e (h.take q.toNat++(mr b v.cs ((h.drop q.toNat).take n)++(h.drop q.toNat).drop n))))],[]⟩,
     .q c gen:: .q (Y w m).size x:: .p (e[k]? =some r)::(nX k l++(pJ k b i.size ((h.drop q.toNat).take n)++(pN k b i.size (h.take q.toNat)++pN k b i.size ((h.drop q.toNat).drop n)))),o)
   |_,_=>none
  |_=>none
 |_,_,_=>none
def rE(z:List T):List (Nat×Nat)->Bool
 | []=>true
 |p::l=>(match z[p.1]? with|some .ek=>true|_=>false)&&rE z l
def zu(C:db)(d:Option Tmp)(t:TypeId)(u:Nat->Bool)(v w:V)(b:List bV):gL:=
 match cS C.bQ t with
 |none=>none
 |some i=>match i.u with
  | .slice e=>match cS C.bQ e with
   |none=>none
   |some j=>match v,w,b,iS (fs j.z).cs with
    | .t (.int .i64 n),.t (.int .i64 m),.nat k:: .rows R::b,some a=>match u k,(fs j.z).val,Nat.beq a.length j.size,Nat.blt 0 j.size&&Nat.ble j.bytes 200000 with
     |false,true,true,true=>some (⟨et d (.aM k 1 j.size 0 R.length),[(k,some (.arr e 1 j.size R))],[(k,true)]⟩,[.q n.toNat m.toNat,.p (mk n (a.map gC)=some R),.p (0<=m)],b)
     |_,_,_,_=>none
    | .t (.int .i64 n),.t (.int .i64 m),.nat k:: .cM _ c q:: .rows R::b,some a=>match u k,(fs j.z).val&&rE a (Y c q).aJ,Nat.beq a.length j.size,Nat.blt 0 j.size&&Nat.ble j.bytes 200000 with
     |false,true,true,true=>some (⟨et d (.aM k 1 j.size 0 R.length),[(k,some (.aw c q 1 R []))],[(k,true)]⟩,[.q (Y c q).ty e,.q (Y c q).size j.size,.q n.toNat m.toNat,.p (mk n (a.map gC)=some R),.p (0<=m)],b)
     |_,_,_,_=>none
    |_,_,_,_=>none
  |_=>none
def yS(C:db)(d:Option Tmp)(t o:TypeId)(H:Nat->Option E)(v w:V)(l:List bV):gL:=
 match cS C.bQ t with
 |none=>none
 |some i=>match i.u with
  | .slice e=>match cS C.bQ e with
   |none=>none
   |some j=>match v,kK w,l with
    | .aM k gen size m len,.t (.aa h),.rows R::l=>match H k with
     |some (.arr n a b c)=>match Nat.beq m 0,Nat.beq j.z.cells.size j.size&&(Nat.blt 0 j.size&&Nat.ble j.bytes 140000),Nat.beq n e&&Nat.beq o t with
      |true,true,true=>some (⟨et d (.aM k (a+1) size 0 R.length),[(k,some (.arr n (a+1) b R))],[]⟩,
        [.q a gen,.q b size,.q size j.size,.q len c.length,.p (app c h=some R),.p (Rows j.size c),.p (Rows j.size h)],l)
      |_,_,_=>none
     |_=>none
    |_,_,_=>none
  |_=>none
def ym(C:db)(d:Option Tmp)(t y:TypeId)(H:Nat->Option E)(v w:V)(o:List bV):gL:=
 match cS C.bQ t with
 |none=>none
 |some i=>match i.u with
  | .slice e=>match cS C.bQ e with
   |none=>none
   |some j=>match v,w,o with
    | .aM k gen size l len,.aM dF F G A r,.rows R::o=>match H k,H dF with
     |some (.aw x m b a []),some (.aw B W D (L::h) n)=>match Nat.beq l 0&&Nat.beq A 0,Nat.beq j.z.cells.size j.size&&(Nat.blt 0 j.size&&Nat.ble j.bytes 140000),Nat.beq y t&&(rl (Y x m) (h.length+1) n&&pw n) with
      |true,true,true=>some (⟨et d (.aM k (b+1) size 0 R.length),[(k,some (.aw x m (b+1) R (fP a.length n)))],[]⟩,
        [.q b gen,.q D F,.q G size,.q size j.size,.q (Y x m).size size,.q (Y x m).ty e,.q r (h.length+1),.q len a.length,.p (Y B W=Y x m),.p (app a (L::h)=some R),.p (Rows j.size a),.p (Rows j.size (L::h))],o)
      |_,_,_=>none
     |some (.arr Q b c a),some _=>match Nat.beq dF k&&Nat.beq l 0,Nat.beq Q e&&(Nat.beq y t&&Nat.blt 0 j.size) with
      |true,true=>some (⟨et d (.aM k gen size 0 (len+r)),[(k,some (.arr Q b c R))],[]⟩,
        [.q b gen,.q F gen,.q c size,.q G size,.q j.size size,.p (len+r<=a.length),.p (A+r<=a.length),.p (R=a.take len++(a.drop A).take r++a.drop (len+r))],o)
      |_,_=>none
     |_,_=>none
    | .aM k gen size l len,.t (.aa []),.int 0::o=>match H k with
     |some (.arr _ b c _)=>match Nat.beq l 0&&Nat.blt 0 j.size,Nat.beq y t with
      |true,true=>some (⟨et d (.aM k gen size 0 len),[],[]⟩,[.q b gen,.q c size,.q j.size size],o)
      |_,_=>none
     |_=>none
    |_,_,_=>none
  |_=>none
def tu(d:de):Nat->List V->Option (List T×List (Nat×Nat×V))
 |_,[]=>some ([],[])
 |j,v::b=>match tu d (j+1) b with
  |none=>none
  |some (r,a)=>match d.du j with
   |some _=>bif v.one then some (.aa []::r,(0,j,v)::a) else none
   |none=>match tC v with
    |some x=>some (x::r,a)
    |none=>none
def mw:Nat->List V->List (Nat×Nat×V)
 |_,[]=>[]
 |i,v::vs=>(i,0,v)::mw (i+1) vs
def zv(C:db)(d:Option Tmp)(t:TypeId)(n:Nat)(h:List Nat)(u:Nat->Bool)(a:List V)(c:List bV):gL:=
 match cS C.bQ t with
 |none=>none
 |some i=>match i.u with
  | .slice e=>match cS C.bQ e with
   |none=>none
   |some j=>match n,c with
    |1,.lt k b m::c=>match ik (λi=>some (i*j.size,j.size)) (List.replicate (1*j.size) .cr) (h.zip (pX ((Y b m).du 0) a)) with
     |none=>none
     |some cs=>match tu (Y b m) 0 cs with
      |none=>none
      |some (r,l)=>match u k,Nat.beq cs.length j.size&&Nat.beq (Y b m).size j.size,Nat.beq h.length a.length&&Nat.beq (Y b m).ty e,Nat.ble (1*j.size) 16777216,Nat.blt 0 j.size with
       |false,true,true,true,true=>some (⟨et d (.aM k 1 j.size 0 1),[(k,some (.aw b m 1 [r] l))],[(k,true)]⟩,[],c)
       |_,_,_,_,_=>none
    |n,.lt k b m::c=>match ik (λi=>some (i*j.size,j.size)) (List.replicate (n*j.size) .cr) (h.zip (ff a)) with
     |none=>none
     |some cs=>match u k,Nat.beq j.size 1&&(Nat.beq cs.length n&&kL cs),Nat.beq h.length a.length&&(Nat.beq (Y b m).ty e&&Nat.beq (Y b m).size 1),Nat.ble (n*j.size) 16777216,Nat.blt 0 n with
      |false,true,true,true,true=>some (⟨et d (.aM k 1 1 0 n),[(k,some (.aw b m 1 (List.replicate n [.aa []]) (mw 0 cs)))],[(k,true)]⟩,[],c)
      |_,_,_,_,_=>none
    |_,_=>none
  |_=>none
def zS(C:db)(d:Option Tmp)(t:TypeId)(n:Nat)(b:List Nat)(u:Nat->Bool)(a:List V)(c:List bV):gL:=
 match cS C.bQ t with
 |none=>none
 |some i=>match i.u with
  | .slice e=>match cS C.bQ e with
   |none=>none
   |some j=>match n,b,c with
    |0,[],.nat k::c=>match u k with
     |false=>some (⟨et d (.aM k 1 j.size 0 0),[(k,some (.arr e 1 j.size []))],[(k,true)]⟩,[],c)
     |true=>none
    |n,b,.int 1:: .nat k::c=>match ik (λi=>some (i*j.size,j.size)) (List.replicate (n*j.size) .cr) (b.zip (ff a)) with
     |none=>none
     |some cs=>match iS cs with
      |none=>none
      |some h=>match u k,Nat.beq h.length (n*j.size),Nat.beq b.length a.length,Nat.ble (n*j.size) 16777216,Nat.blt 0 j.size with
       |false,true,true,true,true=>some (⟨et d (.aM k 1 j.size 0 (js j.size n h).length),[(k,some (.arr e 1 j.size (js j.size n h)))],[(k,true)]⟩,[],c)
       |_,_,_,_,_=>none
    |n,b,.int 2:: .rows R::c=>match ik (λi=>some (i*j.size,j.size)) (List.replicate (n*j.size) .cr) (b.zip (ff a)) with
     |none=>none
     |some cs=>match iS cs with
      |none=>none
      |some h=>match Nat.beq h.length (n*j.size),Nat.beq b.length a.length,Nat.ble (n*j.size) 16777216 with
       |true,true,true=>some (⟨et d (.t (.aa R)),[],[]⟩,[.p (js j.size n h=R)],c)
       |_,_,_=>none
    |n,b,.int 0::c=>match ik (λi=>some (i*j.size,j.size)) (List.replicate (n*j.size) .cr) (b.zip (ff a)) with
     |none=>none
     |some cs=>match iS cs with
      |none=>none
      |some h=>match Nat.beq h.length (n*j.size),Nat.beq b.length a.length,Nat.ble (n*j.size) 16777216 with
       |true,true,true=>some (⟨et d (.t (.aa (js j.size n h))),[],[]⟩,[],c)
       |_,_,_=>none
    |_,_,_=>none
  |_=>none
mutual
def nY:V->Bool
 | .t (.int _ _)| .t (.bool _)| .t (.str _)=>true
 | .agg cs=>pK cs
 | .bI cs=>pK cs
 |_=>false
def pK:List V->Bool
 | []=>true
 |c::cs=>nY c&&pK cs
end
def rV(H:Nat->Option E):V->Option (T×List cQ)
 | .aM k gen size e len=>match H k with
  |some (.arr _ b c a)=>some (.aa a,[.q gen b,.q size c,.q e 0,.q len a.length])
  |some (.aw h m b a [])=>some (.aa a,[.q gen b,.q size (Y h m).size,.q e 0,.q len a.length])
  |_=>none
 | .t x=>some (gC x,[])
 |_=>none
def uY(H:Nat->Option E):List V->Option (List T×List cQ)
 | []=>some ([],[])
 |v::a=>match rV H v,uY H a with
  |some (x,b),some (c,e)=>some (x::c,b++e)
  |_,_=>none
mutual
def ks(H:Nat->Option E):V->Option (V×List cQ)
 | .aM k gen size b len=>match rV H (.aM k gen size b len) with
  |some (x,a)=>some (.t x,a)
  |none=>none
 | .t x=>some (.t (gC x),[])
 | .aT cs=>some (.aT cs,[])
 | .ref id b=>match H id with
  |some (.cells cs)=>match uY H cs with
   |some (dX,a)=>some (.aT (dX.drop b),a)
   |none=>none
  |_=>none
 | .agg cs=>match lJ H cs with
  |some (c,a)=>some (.agg c,a)
  |none=>none
 | .bI cs=>match lJ H cs with
  |some (c,a)=>some (.bI c,a)
  |none=>none
 | .fn f cs=>match lJ H cs with
  |some (c,a)=>some (.fn f c,a)
  |none=>none
 | .ca _ _ _ _ _=>none
 | .cr=>none
def lJ(H:Nat->Option E):List V->Option (List V×List cQ)
 | []=>some ([],[])
 |v::a=>match ks H v,lJ H a with
  |some (x,b),some (c,e)=>some (x::c,b++e)
  |_,_=>none
end
def Gk:List bV->List bV
 | .nat _::hs=>Gk hs
 |hs=>hs
def zY(C:db)(d:Option Tmp)(H:Nat->Option E)(a:List V)(c:List bV):gL:=
 match a with
 | .fn f b::args=>match Gk (c.drop 1) with
  | .v r::c=>match lJ H (args++b),nY r with
   |some (e,h),true=>some (⟨et d r,[],[]⟩,h++[.p (hE C.P C.G f e r)],c)
   |_,_=>none
  |_=>none
 |_=>none
def zm(C:db)(d:Option Tmp)(b:List V)(c:List bV):gL:=
 match b with
 | .fn f a::args=>match c with
  | .v r::c=>match e6 e5 (ff (args++a)) with
   |true=>some (⟨et d r,[],[]⟩,[.p (hE C.P C.G f (ff (args++a)) r)],c)
   |false=>none
  | .nat _:: .v r::c=>some (⟨et d r,[],[]⟩,[.p (e6 e5 (ff (args++a))=true),.p (hE C.P C.G f (ff (args++a)) r)],c)
  |_=>none
 |_=>none
def z'(C:db)(d:Option Tmp)(c:List V)(H:Nat->Option E)(u:Nat->Bool)(i:List bV):gL:=
 match c with
 | .fn f h::args=>match i with
  | .ec L a r out::i=>match pa L (ff (args++h)),pT L H L,uO (L++a)&&tY u a&&Nat.beq out.length (L++a).length with
   |some b,some er,true=>some (⟨et d (r.c6 (L++a)),(L++a).zip (out.map λe=>some (e.c6 (L++a))),(L++a).map λk=>(k,true)⟩,[.p (gM C.P C.G f er b r out)],i)
   |_,_,_=>none
  |_=>none
 |_=>none
def y9(C:db)(t:TypeId)(H:Nat->Option E)(v:V)(l:List bV):gL:=
 match cS C.bQ t with
 |none=>none
 |some i=>match i.u with
  | .slice e=>match cS C.bQ e with
   |none=>none
   |some j=>match v,l,iS (fs j.z).cs with
    | .aM k gen size h len,.rows R::l,some m=>match H k,(fs j.z).val with
     |some (.arr n c a b),true=>some (⟨[],[(k,some (.arr n c a R))],[]⟩,[.q c gen,.q a size,.q m.length size,.p (h+len<=b.length/\R=b.take h++List.replicate len (m.map gC)++b.drop (h+len))],l)
     |_,_=>none
    |_,_,_=>none
  |_=>none
def zj(C:db)(d:Option Tmp)(t:TypeId)(H:Nat->Option E)(v w:V)(n:List bV):gL:=
 match cS C.bQ t with
 |none=>none
 |some i=>match i.u with
  | .slice e=>match cS C.bQ e with
   |none=>none
   |some j=>match v,kK w,n with
    | .aM k gen size l len,.t (.aa a),.rows R:: .nat m::n=>match H k,Nat.blt 0 j.size with
     |some (.arr o h b c),true=>some (⟨et d (.t (.int .i64 m)),[(k,some (.arr o h b R))],[]⟩,
       [.q h gen,.q b size,.q size j.size,.q m (Nat.min a.length len),.p (Rows j.size a),.p (l+len<=c.length/\R=c.take l++a.take m++c.drop (l+m))],n)
     |_,_=>none
    |_,_,_=>none
  |_=>none
def Ti:List bV->Bool
 | .ec _ _ _ _::_=>true
 |_=>false
def An(C:db)(o:Oper)(b:List V)(H:Nat->Option E)(u:Nat->Bool)(e:List bV):gL:=
 match hK C.nt o.dst with
 |false=>none
 |true=>match o.op with
  | .box _ _=>match b with
   | [v]=>match Hv e with
    |true=>zn o.dst v e
    |false=>pL o.dst u v e
   |_=>none
  | .alloc t=>match cS C.bQ t with
   |some i=>pL o.dst u (fs i.z) e
   |none=>none
  | .store t _ _=>match o.dst,b with
   |none,[a,v]=>match y4 C t H a v e with
    |some r=>some r
    |none=>yQ C t H a v e
   |_,_=>none
  | .makeSlice t _ _=>match b with
   | [v,w]=>zu C o.dst t u v w e
   |_=>none
  | .buildSlice t n k=>match zS C o.dst t n (k.toList.map (·.1)) u b e with
   |some r=>some r
   |none=>zv C o.dst t n (k.toList.map (·.1)) u b e
  | .call c=>match c.callee with
   | .value _=>match Ti e with
    |true=>z' C o.dst b H u e
    |false=>match Hv e with
     |true=>zY C o.dst H b e
     |false=>zm C o.dst b e
   | .builtin .append=>match c.args.toList,c.argTypes.toList,b with
    | [_,_],[t,l],[v,w]=>match yS C o.dst t l H v w e with
     |some r=>some r
     |none=>ym C o.dst t l H v w e
    |_,_,_=>none
   | .builtin .clear=>match o.dst,c.args.toList,c.argTypes.toList,b with
    |none,[_],[t],[v]=>y9 C t H v e
    |_,_,_,_=>none
   | .builtin .copy=>match c.args.toList,c.argTypes.toList,b with
    | [_,_],[t,_],[v,w]=>zj C o.dst t H v w e
    |_,_,_=>none
   | .builtin _=>match r6 C.P C.bQ H o.op b e with
    |some (v,h,e)=>some (⟨et o.dst v,[],[]⟩,h,e)
    |none=>none
   |_=>none
  |_=>match r6 C.P C.bQ H o.op b e with
   |some (v,h,e)=>some (⟨et o.dst v,[],[]⟩,h,e)
   |none=>none
theorem Qn{z:Value}{a:List T}(i:(fs z).val=true)(k:iS (fs z).cs=some a):z.cells.size=a.length/\ ∀(w:World) (X:Nat->Prop) (j:Nat) (u:Value) (x:T),z.cells[j]? =some u->(a.map gC)[j]? =some x->b8 w X x u:=by
 have h:=fun(w:World) (X:Nat->Prop)=>(sX (⟨λ_=>none,λ_ _=>False⟩:Map) w X z).cells i;have e:=lj k;refine⟨by rw[(h default λ_=>False).1,e,dI],λw X j u x l b=>?_⟩;rw[dU] at b;cases c:a[j]? with
 |none=>rw[c] at b;cases b
 |some y=>
  rw[c] at b;simp only[Option.map_some,Option.some.injEq] at b;subst b
  have:=(h w X).2 j (.t y) u (by rw[e,dU,c];rfl) l;cases this with
  |t _ _ m=>exact m.s0
section steps
variable {K:Ctx}{s:S}{d:Option Tmp}{ty:TypeId}{pos:String}{af:Array Edge}{g:Option (Nat×Bool)}
variable {t:TypeId}{u:TypeDesc}{z:Value}{size bytes gen:Nat}
theorem KU(a:Array Value)(n i j:Nat)(e:i<n)(c:j<a.size):(Builtin.zeroCells a n).toList[i*a.size+j]? =a[j]? :=by
 have b:i*a.size+j<n*a.size:=by
  have:(i+1)*a.size<=n*a.size:=dn _ e
  grind
 have h:(i*a.size+j)%a.size=j:=by rw[Nat.mul_comm,Nat.mul_add_mod];exact Nat.mod_eq_of_lt c
 simp[Builtin.zeroCells,b,h,c]
theorem Q3(x:Operand)(E c h:Nat)(e e':TypeId)(rows:List (List T))(A:List T)(hx:s.get x= .aM E gen size c h)(hH:s.H E=some (.arr e' gen size rows))(eT:K.P.underlying t=some (.slice e)){sz:Nat}(he:bN K.P e u z sz bytes)
  (bG:(fs z).val=true) (da:iS (fs z).cs=some A) (G:A.length=size) (cc:c+h<=rows.length):
  dh K ⟨none,.call {callee:= .builtin .clear,args:= #[x],argTypes:= #[t]},ty,pos,af,g⟩ s {s with H:=aE s.H E (some (.arr e' gen size (rows.take c++List.replicate h (A.map gC)++rows.drop (c+h))))}:=by
 intro β a w next Q bH I
 have L:=bH.get x;rw[hx] at L;have M:=(bH.heap E _ hH).2;obtain⟨q,N⟩:=hi M;obtain⟨sy,U⟩:=Qn bG da;unfold Oper.wp;cases h with
 |zero=>
  obtain⟨gv,cap,o⟩: ∃gv cap,a.eval x= .slice gv 0 cap:=by
   rcases eh L N with ⟨cap,b,n,gl,o,_⟩|⟨_,_,_,o⟩
   ·exact⟨_,cap,o⟩
   exact⟨none,0,o⟩
  have y:(execOp a.eval ⟨none,.call {callee:= .builtin .clear,args:= #[x],argTypes:= #[t]},ty,pos,af,g⟩).run K.P w= .ok (.value (.tuple #[])) w:=by
   cases gv<;>simp[execOp,resolve,invoke,builtin,o,Builtin.clear_,run_underlying eT]
  rw[y]
  have:rows.take c++List.replicate 0 (A.map gC)++rows.drop (c+0)=rows:=aY
  refine I β _ _ ?_;rw[this];exact bH.tq E _ hH
 |succ h=>
  rcases eh L N with ⟨cap,b,n,gl,o,hc,hw,hs,cj,lT,hm⟩|⟨_,_,h0,_⟩
  ·subst hc;rcases M.2 with ⟨V,_⟩|⟨b0,C,V,h2,h3,h4,h5⟩
   ·rw[N] at V;cases V
   rw[N] at V;cases V;have D:z.cells.size=size:=by rw[sy,G]
   have p:(Builtin.zeroCells z.cells (h+1)).toList.length=(h+1)*size:=by rw[kO,size_zeroCells,D]
   have oC:c*size+(h+1)*size<=C.size:=by
    have:(c+(h+1))*size<=rows.length*size:=dn _ cc;rw[dM] at this;omega
   have r: ∀(i j:Nat) (u:Value),i<h+1->j<size->(Builtin.zeroCells z.cells (h+1)).toList[i*size+j]? =some u->z.cells[j]? =some u:=by
    intro i j u aG F hu;rw[<-D] at F hu
    rwa [KU _ _ _ _ aG F] at hu
   have Y: ∀v∈(Builtin.zeroCells z.cells (h+1)).toList,v.oneCell'=true:=by
    intro v Vb;obtain⟨k,I⟩:=ht.1 Vb;have R:=(bt.1 I).1;rw[p] at R;have hp:0<size:=by
     rcases Nat.eq_zero_or_pos size with e0|e0
     ·rw[e0] at R;omega
     exact e0
    have hdiv:k / size<h+1:=(tI hp).2 R;have Ha:k%size<size:=Nat.mod_lt _ hp;have lS:(Builtin.zeroCells z.cells (h+1)).toList[k / size*size+k%size]? =some v:=by rw[Nat.div_add_mod'];exact I
    have h9:=r _ _ _ hdiv Ha lS
    have:(A.map gC)[k%size]? =some (gC A[k%size]):=by rw[dU,bg O];rfl
    exact(aQ.t (β:=β) _ _ (U w (λ_=>False) _ _ _ h9 this)).gV rfl
   have ss:=run_storeCells_at K.P b (c*size) e' (Builtin.zeroCells z.cells (h+1)).toList 0 C w h2 (by rw[p];omega) Y;simp only[Nat.add_zero] at ss;have y:(execOp a.eval ⟨none,.call {callee:= .builtin .clear,args:= #[x],argTypes:= #[t]},ty,pos,af,g⟩).run K.P w= .ok (.value (.tuple #[])) (w.setRow b (C.toList.take (c*size)++(Builtin.zeroCells z.cells (h+1)).toList++C.toList.drop (c*size+(Builtin.zeroCells z.cells (h+1)).toList.length)).toArray):=by
    simp[execOp,resolve,invoke,builtin,o,Builtin.clear_,run_underlying eT,he.o8,ss]
   rw[y];refine I β _ _ (Ez bH E b e' rows _ C _ hH N h2 (by simp[p];omega) ?_ ?_ ?_)
   ·have:(rows.take c++List.replicate (h+1) (A.map gC)++rows.drop (c+(h+1))).length=rows.length:=bY
    rw[this];exact h3
   ·intro m l;rw[eW,eW] at l;rcases l with (l|l)|l
    ·exact h4 m (hv l)
    ·rw[(ra.1 l).2,dI];exact G
    exact h4 m (kc l)
   intro i j m gp jv ay a2 a3;have a3:(C.toList.take (c*size)++(Builtin.zeroCells z.cells (h+1)).toList++C.toList.drop (c*size+(Builtin.zeroCells z.cells (h+1)).toList.length))[i*size+j]? =some jv:=by simpa using a3
   rw[p] at a3;have B:(C.toList.take (c*size)).length=c*size:=bY
   by_cases c1:i<c
   ·rw[iq,gI bY,fT,bh c1] at ay;have F:j<size:=by rw[<-h4 m (bB ay)];exact(bt.1 a2).1
    have hlt:i*size+j<c*size:=jU c1 F;rw[iq,gI O,fT,bh hlt] at a3;exact .inl ⟨i,m,ay,a2,by simpa using a3⟩
   by_cases c2:i<c+(h+1)
   ·rw[gI bY,gH bY] at ay;have l:m=A.map gC:=by
     have:=bB ay;exact(ra.1 this).2
    subst l;have F:j<size:=by rw[<-G,<-dI (f:=gC)];exact(bt.1 a2).1
    have e1:i*size+j=c*size+((i-c)*size+j):=by rw[Nat.sub_mul];have:=dn size (O:c<=i);omega
    have hlt:(i-c)*size+j<(h+1)*size:=jU O F;rw[e1,gI (by rw[dq,B,p];omega),gH O,B,Nat.add_sub_cancel_left] at a3;exact .inr λw X=>U w X j _ _ (r _ _ _ O F a3) a2
   have W:(rows.take c++List.replicate (h+1) (A.map gC)).length=c+(h+1):=bY
   rw[gH O,W,fX,show c+(h+1)+(i-(c+(h+1)))=i by omega] at ay;have F:j<size:=by rw[<-h4 m (bB ay)];exact(bt.1 a2).1
   have jR:c*size+(h+1)*size<=i*size+j:=by
    have:=dn size (O:c+(h+1)<=i);rw[dM] at this;omega
   rw[gH (by rw[dq,B,p];omega),dq,B,p,fX,show c*size+(h+1)*size+(i*size+j-(c*size+(h+1)*size))=i*size+j by omega] at a3;exact .inl ⟨i,m,ay,a2,by simpa using a3⟩
  omega
theorem MX(k h l c:Nat)(x y:Operand)(e:TypeId)(rows:List (List T))(cy: ∀i,d=some i->Nat.blt i K.nt=true)(hx:s.get x= .aM k gen size 0 h)(hy:s.get y= .aM k gen size l c)(hH:s.H k=some (.arr e gen size rows))
  (eT:K.P.underlying t=some (.slice e)) (he:bN K.P e u z size bytes) (hp:0<size) (h1:h+c<=rows.length) (h2:l+c<=rows.length):
  dh K ⟨d,.call {callee:= .builtin .append,args:= #[x,y],argTypes:= #[t,t]},ty,pos,af,g⟩ s
   (({s with H:=aE s.H k (some (.arr e gen size (rows.take h++(rows.drop l).take c++rows.drop (h+c))))}:S).put d (.aM k gen size 0 (h+c))):=by
 intro β a w next Q bH hkk
 have I:=bH.get x;rw[hx] at I;have ji:=bH.get y;rw[hy] at ji;have fL:=(bH.heap k _ hH).2;have hd:=fL.1;obtain⟨q,M⟩:=hi fL;obtain⟨_,i,jS,hi2,je,oD⟩:=id he;unfold Oper.wp;cases c with
 |zero=>
  obtain⟨gv,cap,N⟩: ∃gv cap,a.eval y= .slice gv 0 cap:=by
   rcases eh ji M with ⟨cap,b,n,gl,p,_⟩|⟨_,_,_,p⟩
   ·exact⟨_,cap,p⟩
   exact⟨none,0,p⟩
  have UZ:rows.take h++(rows.drop l).take 0++rows.drop (h+0)=rows:=aY
  have G:(execOp a.eval ⟨d,.call {callee:= .builtin .append,args:= #[x,y],argTypes:= #[t,t]},ty,pos,af,g⟩).run K.P w= .ok (.value (a.eval x)) w:=by
   rcases eh I M with ⟨Ah,b,n,gl,p,_,_,_,_,cc,_⟩|⟨_,_,_,p⟩
   ·cases gv<;>simp[execOp,resolve,invoke,builtin,p,N,Builtin.append_,run_underlying eT,sizeOf,typeInfo,jS,Builtin.lenOf,Builtin.firstCells,cc,storeCells,loadCells,loadCellsFrom]
   cases gv<;>simp[execOp,resolve,invoke,builtin,p,N,Builtin.append_,run_underlying eT,sizeOf,typeInfo,jS,Builtin.lenOf,Builtin.firstCells,loadCells,loadCellsFrom]
  rw[G];refine hkk β _ w ?_;have k4:aE s.H k (some (E.arr e gen size rows))=s.H:=by
   funext j;by_cases D:j=k
   ·subst D;rw[bs,hH]
   rw[bu _ _ _ _ D]
  rw[UZ,k4];exact bH.put d cy I
 |succ c=>
  rcases eh ji M with ⟨Tv,b,n,gl,N,hc,hw,hs,cj,lT,hm⟩|⟨_,_,h0,_⟩
  ·subst hc;rcases eh I M with ⟨A,e3,Bv,Wu,p,kB,Vc,U,oF,Xt,vv⟩|⟨h0,_⟩
   ·cases kB;rcases fL.2 with ⟨g1,_⟩|⟨b0,B,g1,g2,g3,g4,g5⟩
    ·rw[M] at g1;cases g1
    rw[M] at g1;cases g1;have Hm:B.size=Bv:=by
     unfold World.shape? at U;rw[g2] at U;simp at U;exact U.2
    obtain⟨C,Hp⟩: ∃C,C=(B.toList.drop (l*size)).take ((c+1)*size):=⟨_,rfl⟩
    have hle:(l+(c+1))*size<=B.size:=dT (dn _ h2) g3;rw[dM] at hle;have F:C.length=(c+1)*size:=by rw[Hp];simp;omega
    have L: ∀j v,C[j]? =some v->B[l*size+j]? =some v/\j<(c+1)*size:=λj v bG=>by
     have D:=(bt.1 bG).1;rw[F] at D;rw[Hp,fT,bh D,fX] at bG;exact⟨by simpa using bG,D⟩
    have V: ∀r,r<rows.length-> ∃m,rows[r]? =some m/\m.length=size:=λr sj=>⟨_,bg sj,g4 _ (fe sj)⟩
    have AK: ∀j v,C[j]? =some v->w.cell? ((⟨b,l*size,none⟩:Addr).add j)=some v:=λj v bG=>by
     rw[gO];simp only[World.cell?,g2];exact(L j v bG).1
    have kD: ∀v,v∈C->v.oneCell'=true:=λv bG=>by
     obtain⟨j,D⟩:=ht.1 bG;obtain⟨h3,h4⟩:=L j v D;have Ha:j%size<size:=Nat.mod_lt _ hp;have hdiv:j / size<c+1:=(tI hp).2 h4;obtain⟨m,A1,A2⟩:=V (l+j / size) O;have Uf:(l+j / size)*size+j%size=l*size+j:=by rw[dM,nE,Nat.div_add_mod']
     exact(g5 (l+j / size) (j%size) m m[j%size] v A1 (bg O) (by rw[Uf];exact h3)).gV
    have oC:h*size+C.length<=B.size:=by
     rw[F,<-dM];exact dT (dn _ h1) g3
    have R:h+(c+1)<=A:=by
     have:(h+(c+1))*size<=A*size:=by
      rw[dm] at oF;rw[oF,<-Hm];exact dT (dn _ h1) g3
     exact Nat.le_of_mul_le_mul_right this hp
    have W:=run_append_room (P:=K.P) w t ty e i eT jS b h A B g2 ⟨b,l*size,none⟩ (c+1) Tv C (by rw[je];exact F) AK kD R (by rw[je];exact oC);rw[je] at W;have G:(execOp a.eval ⟨d,.call {callee:= .builtin .append,args:= #[x,y],argTypes:= #[t,t]},ty,pos,af,g⟩).run K.P w= .ok (.value (.slice (some ⟨b,0,none⟩) (h+(c+1)) A)) (w.setRow b (B.toList.take (h*size)++C++B.toList.drop (h*size+C.length)).toArray):=by
     rw[fc] at p;simp[execOp,resolve,invoke,builtin,p,N,W]
    rw[G];have Y:(B.toList.take (h*size)).length=h*size:=bY
    have qp:(B.toList.take (h*size)++C++B.toList.drop (h*size+C.length)).toArray.size=B.size:=bY
    have X:(rows.take h).length=h:=by rw[dz];omega
    have f:((rows.drop l).take (c+1)).length=c+1:=by rw[dz,ir];omega
    have hrel:=Ez bH k b e rows (rows.take h++(rows.drop l).take (c+1)++rows.drop (h+(c+1))) B _ hH M g2 qp ?_ ?_ ?_
    ·refine hkk β _ _ (hrel.put d cy ?_);have iF:aQ β (w.setRow b (B.toList.take (h*size)++C++B.toList.drop (h*size+C.length)).toArray) (own K β (aE s.H k (some (.arr e gen size (rows.take h++(rows.drop l).take (c+1)++rows.drop (h+(c+1))))))) (.aM k gen size 0 (h+(c+1))) (.slice (some ⟨b,0*size,none⟩) (h+(c+1)) A):=by
      refine .aM k gen size 0 _ A b Bv e hd M (by simpa using Vc) ?_ oF R vv;unfold World.shape?;rw[setRow_heap _ _ _ _ _ _ g2];simp only[qp,Hm]
     rw[fc] at iF;exact iF
    ·rw[dq,dq,X,f,ir]
     have:h+(c+1)+(rows.length-(h+(c+1)))=rows.length:=O
     rw[this];exact g3
    ·intro m o;rw[eW,eW] at o;rcases o with (o|o)|o
     ·exact g4 m (hv o)
     ·exact g4 m (kc (hv o))
     exact g4 m (kc o)
    intro r j m gp jv ay a2 a3;have a3:(B.toList.take (h*size)++C++B.toList.drop (h*size+C.length))[r*size+j]? =some jv:=by simpa using a3
    refine .inl ?_;by_cases c1:r<h
    ·rw[iq,gI O,fT,bh c1] at ay;have D:j<size:=by rw[<-g4 m (bB ay)];exact(bt.1 a2).1
     have hlt:r*size+j<h*size:=jU c1 D;rw[iq,gI O,fT,bh hlt] at a3;exact⟨r,m,ay,a2,by simpa using a3⟩
    by_cases c2:r<h+(c+1)
    ·rw[gI (by rw[dq];omega),gH O,X,fT,bh O,fX] at ay;have D:j<size:=by rw[<-g4 m (bB ay)];exact(bt.1 a2).1
     have e1:r*size+j=h*size+((r-h)*size+j):=by rw[Nat.sub_mul];have:=dn size (O:h<=r);omega
     have hlt:(r-h)*size+j<(c+1)*size:=jU O D;rw[e1,gI (by rw[dq,Y,F];omega),gH O,Y,Nat.add_sub_cancel_left] at a3;have h9:=(L _ _ a3).1;exact⟨l+(r-h),m,ay,a2,by rw[dM,nE];exact h9⟩
    have UA:(rows.take h++(rows.drop l).take (c+1)).length=h+(c+1):=by rw[dq,X,f]
    rw[gH O,UA,fX,show h+(c+1)+(r-(h+(c+1)))=r by omega] at ay;have D:j<size:=by rw[<-g4 m (bB ay)];exact(bt.1 a2).1
    have jR:h*size+(c+1)*size<=r*size+j:=by
     have:=dn size (O:h+(c+1)<=r);rw[dM] at this;omega
    rw[gH (by rw[dq,Y,F];omega),dq,Y,F,fX,show h*size+(c+1)*size+(r*size+j-(h*size+(c+1)*size))=r*size+j by omega] at a3;exact⟨r,m,ay,a2,by simpa using a3⟩
   rw[M] at *; cases h0
  omega
theorem LU(k L:Nat)(x y:Operand)(e X:TypeId)(p:List (List T))(f: ∀i,d=some i->Nat.blt i K.nt=true)(j:s.get x= .aM k gen size 0 L)(E:cV (s.get y) (.t (.aa [])))(I:s.H k=some (.arr X gen size p))
  (R:K.P.underlying t=some (.slice e)) (M:bN K.P e u z size bytes) (N:0<size):
  dh K ⟨d,.call {callee:= .builtin .append,args:= #[x,y],argTypes:= #[t,t]},ty,pos,af,g⟩ s (s.put d (.aM k gen size 0 L)):=by
 intro U a w next Q C D
 have h:=C.get x;rw[j] at h;have F:=E _ _ _ _ (C.get y);have G:=(C.heap k _ I).2;obtain⟨q,V⟩:=hi G;obtain⟨_,i,r,Y,je,oD⟩:=id M;unfold Oper.wp;obtain⟨m,cap,v⟩: ∃m cap,a.eval y= .slice m 0 cap:=by
  rcases yr F (Rows.nil size) N with (⟨A,_⟩|⟨b,o,c,_,A,_⟩)|⟨_,m,cap,A⟩
  ·exact⟨none,0,A⟩
  ·exact⟨_,c,A⟩
  exact⟨m,cap,A⟩
 have B:(execOp a.eval ⟨d,.call {callee:= .builtin .append,args:= #[x,y],argTypes:= #[t,t]},ty,pos,af,g⟩).run K.P w= .ok (.value (a.eval x)) w:=by
  rcases eh h V with ⟨W,b,n,gl,l,_,_,_,_,cc,_⟩|⟨_,_,_,l⟩
  ·cases m<;>simp[execOp,resolve,invoke,builtin,l,v,Builtin.append_,run_underlying R,sizeOf,typeInfo,r,Builtin.lenOf,Builtin.firstCells,cc,storeCells,loadCells,loadCellsFrom]
  cases m<;>simp[execOp,resolve,invoke,builtin,l,v,Builtin.append_,run_underlying R,sizeOf,typeInfo,r,Builtin.lenOf,Builtin.firstCells,loadCells,loadCellsFrom]
 rw[B];exact D U _ w (C.put d f h)
theorem N6{size off:Nat}{a c:List (List T)}{us cs:List Value}(r:off+m<=a.length)(y:a.length*size<=us.length)(o:cs.length=m*size)(A:m<=c.length)(p: ∀b,b∈a->b.length=size)(e: ∀b,b∈c->b.length=size){R:T->Value->Prop}
  (q: ∀(i j:Nat) (b:List T) (x:T) (u:Value),a[i]? =some b->b[j]? =some x->us[i*size+j]? =some u->R x u)
  (v: ∀(i j:Nat) (b:List T) (x:T) (u:Value),c[i]? =some b->b[j]? =some x->cs[i*size+j]? =some u->R x u):
  ∀(i j:Nat) (b:List T) (x:T) (u:Value),(a.take off++c.take m++a.drop (off+m))[i]? =some b->b[j]? =some x->(us.take (off*size)++cs++us.drop (off*size+cs.length))[i*size+j]? =some u->R x u:=by
 have B:off*size+m*size<=a.length*size:=by rw[<-dM];exact dn _ r
 have w:=xP (us.take (off*size)) cs [] (rows:=a.take off) (news:=c.take m) (n:=off) (size:=size) (by rw[dz];omega) (by rw[dz];omega) (by rw[dz,o];congr 1;omega)
  (λb h=>p b (hv h)) (λb h=>e b (hv h)) (R:=R)
  (λk j b x u ay a2 a3=>by
   rw[fT] at ay a3;split at ay
   ·split at a3
    ·exact q k j b x u ay a2 a3
    cases a3
   cases ay)
  (λk j b x u ay a2 a3=>by
   rw[fT] at ay;split at ay
   ·exact v k j b x u ay a2 a3
   cases ay)
 have l:(us.drop (off*size+cs.length)).length=us.length-(off+m)*size:=by rw[ir,o,dM]
 have fv:=xP (us.take (off*size)++cs) ((us.drop (off*size+cs.length)).take ((a.length-(off+m))*size)) ((us.drop (off*size+cs.length)).drop ((a.length-(off+m))*size)) (rows:=a.take off++c.take m) (news:=a.drop (off+m)) (n:=off+m) (size:=size)
  (by rw[dq,dz,dz];omega) (by rw[dq,dz,o,dM];omega)
  (by
   rw[dz,l,ir]
   have:(a.length-(off+m))*size=a.length*size-(off+m)*size:=Nat.sub_mul _ _ _;omega)
  (λb h=>by
   rcases eW.1 h with h|h
   ·exact p b (hv h)
   exact e b (hv h)) (λb h=>p b (kc h)) (R:=R) (λk j b x u ay a2 a3=>w k j b x u ay a2 (by simpa using a3))
  (λk j b x u ay a2 a3=>by
   rw[fX] at ay;rw[fT] at a3;split at a3
   ·rw[fX,o] at a3;refine q (off+m+k) j b x u ay a2 ?_;rw[dM,dM,nE];exact a3
   cases a3)
 intro i j b x u ay a2 a3;refine fv i j b x u ay a2 ?_;rw[iq _ (List.take _ _),tJ];exact a3
theorem Sq(x y:Operand)(E c len:Nat)(e e' ju:TypeId)(rows k:List (List T))(cy: ∀i,d=some i->Nat.blt i K.nt=true)(hx:s.get x= .aM E gen size c len)(hy:cV (s.get y) (.t (.aa k)))(hH:s.H E=some (.arr e' gen size rows))(eT:K.P.underlying t=some (.slice e))
  (he:bN K.P e u z size bytes) (hp:0<size) (I: ∀r,r∈k->r.length=size) (cc:c+len<=rows.length):
  dh K ⟨d,.call {callee:= .builtin .copy,args:= #[x,y],argTypes:= #[t,ju]},ty,pos,af,g⟩ s
   (({s with H:=aE s.H E (some (.arr e' gen size (rows.take c++k.take (Nat.min k.length len)++rows.drop (c+Nat.min k.length len))))}:S).put d (.t (.int .i64 (Nat.min k.length len:Nat)))):=by
 intro β a w next Q bH hk
 have M:=bH.get x;rw[hx] at M;have ji:=hy _ _ _ _ (bH.get y);have N:=(bH.heap E _ hH).2;obtain⟨q,U⟩:=hi N;obtain⟨_,i,jS,hi2,je,oD⟩:=he;unfold Oper.wp;have Vf: ∃C c1,a.eval x= .slice C len c1:=by
  rcases eh M U with ⟨D,b,n,gl,B,_⟩|⟨_,_,h0,B⟩
  ·exact⟨_,D,B⟩
  subst h0;exact⟨none,0,B⟩
 have W:=yr ji I hp;have Vh: ∃BS c2,a.eval y= .slice BS k.length c2:=by
  rcases W with (⟨A,X⟩|⟨b,c,D,G,A,_⟩)|⟨X,gv,D,A⟩
  ·subst X;exact⟨none,0,A⟩
  ·exact⟨_,_,A⟩
  subst X;exact⟨gv,D,A⟩
 obtain⟨m,hm⟩: ∃m,m=Nat.min k.length len:=⟨_,rfl⟩
 rw[<-hm] at hk;by_cases V:m=0
 ·subst V;obtain⟨C,c1,B⟩:=Vf;obtain⟨BS,c2,A⟩:=Vh;have F:(execOp a.eval ⟨d,.call {callee:= .builtin .copy,args:= #[x,y],argTypes:= #[t,ju]},ty,pos,af,g⟩).run K.P w= .ok (.value (goInt ((0:Nat):Int))) w:=by
   cases C<;>cases BS<;>simp[execOp,resolve,invoke,builtin,B,A,Builtin.copy_,run_underlying eT,sizeOf,typeInfo,jS,Builtin.lenOf,Builtin.firstCells,<-hm,loadCells,loadCellsFrom,storeCells]
  rw[F]
  have:rows.take c++k.take 0++rows.drop (c+0)=rows:=aY
  rw[this] at hk;exact hk β _ _ ((bH.tq E _ hH).put d cy (.t _ _ (.int _ _)))
 have Xw:m<=len:=by rw[hm];exact Nat.min_le_right _ _
 have o:m<=k.length:=by rw[hm];exact Nat.min_le_left _ _
 rcases W with (⟨_,X⟩|⟨b0,V5,vc,f,A,k7,su,k6,hwr⟩)|⟨X,_⟩
 ·subst X;simp at o;exact a6 o V
 ·rcases eh M U with ⟨D,b,n,gl,B,hc,hw,hs,X,lT,k5⟩|⟨_,_,h0,_⟩
  ·subst hc;rcases N.2 with ⟨h1,_⟩|⟨Y,G,h1,h2,h3,h4,h5⟩
   ·rw[U] at h1;cases h1
   rw[U] at h1;cases h1;have L:(f.take (m*size)).length=m*size:=by rw[dz,k7];have:=dn size o;omega
   have oC:c*size+m*size<=G.size:=by
    have:(c+m)*size<=rows.length*size:=dn _ O;rw[dM] at this;omega
   have G9:=run_loadCells_list (P:=K.P) w ⟨b0,V5,none⟩ (f.take (m*size)) (λj y hj=>by
    rw[gO];rw[fT] at hj;split at hj
    ·exact su j y hj
    cases hj)
   have ss:=run_storeCells_at K.P b (c*size) e' (f.take (m*size)) 0 G w h2 (by rw[L];omega) λv bG=>k6 v (hv bG);simp only[Nat.add_zero] at ss;rw[L] at G9;have F:(execOp a.eval ⟨d,.call {callee:= .builtin .copy,args:= #[x,y],argTypes:= #[t,ju]},ty,pos,af,g⟩).run K.P w= .ok (.value (goInt (m:Int))) (w.setRow b (G.toList.take (c*size)++f.take (m*size)++G.toList.drop (c*size+(f.take (m*size)).length)).toArray):=by
    simp[execOp,resolve,invoke,builtin,B,A,Builtin.copy_,run_underlying eT,sizeOf,typeInfo,jS,je,Builtin.lenOf,Builtin.firstCells,<-hm,G9,ss]
   rw[F];have jh:(G.toList.take (c*size)++f.take (m*size)++G.toList.drop (c*size+(f.take (m*size)).length)).toArray.size=G.size:=by
    have h2: ∀l:List Value,l.toArray.size=l.length:=λl=>aY
    rw[h2];simp only[List.length_append,L,List.length_take,List.length_drop,Array.length_toList];omega
   have hlen:(rows.take c++k.take m++rows.drop (c+m)).length=rows.length:=bY
   have lQ:own K β s.H b:= .inr ⟨E,by rw[hH];simp,.inl ⟨_,U⟩⟩;refine hk β _ _ (Rel.put (Rel.setRow bH E b (.inl ⟨_,U⟩) G e' h2 _ jh (.arr e' gen size (rows.take c++k.take m++rows.drop (c+m))) (by rw[hH];simp)
    ⟨N.1,Or.inr ⟨b,_,U,setRow_heap _ _ _ _ _ _ h2,by rw[jh,hlen];exact h3,λr p=>?_,λi j r x u ay a2 a3=>?_⟩⟩) d cy (.t _ _ (.int _ _)))
   ·rw[eW,eW] at p;rcases p with (p|p)|p
    ·exact h4 r (hv p)
    ·exact I r (hv p)
    exact h4 r (kc p)
   have h9:=N6 (off:=c) (m:=m) (us:=G.toList) (cs:=f.take (m*size)) O (by simpa using h3) L o h4 I (R:=λx u=>b8 w (own K β s.H) x u) (λi j r x u cD b0 Y=>h5 i j r x u cD b0 (by simpa using Y))
    (λi j r x u cD b0 Y=>by
     rw[fT] at Y;split at Y
     ·exact hwr i j r x u cD b0 Y
     cases Y) i j r x u ay a2 (by simpa using a3)
   refine h9.mono ⟨rfl,rfl,rfl,aY,λkk _ hx=>setRow_other _ _ _ _ λe0=>hx ?_⟩ λ_ _ h=>h;subst e0;exact lQ
  omega
 subst X;simp at o;exact a6 o V
end steps
end
variable {P:Program}{r:List Nat}{o:Oper}{a l:List V}{v:V}{b i n M F Q W:List bV}{c m jB:List cQ}{k gen size:Nat}{e:cg}{e':E}{t:TypeId}{x y:Operand}{u:Nat->Bool}{z:Value}
theorem bK.sub{H r:Nat->Option E}(h:bK P H o a v)(b: ∀k e,H k=some e->r k=some e):bK P r o a v:=
 λβ w X c i l=>h β w X c (λid e m=>i id e (b id e m)) l
theorem dh.Ca{K:Ctx}{s b c:S}(h:dh K o s b)(m: ∀β a w,Rel K β b a w->Rel K β c a w):dh K o s c:=
 λβ a w next Q n p=>h β a w next Q n λe k l i=>p e k l (m e k l i)
theorem Ry{K:Ctx}{β:Map}{H:Nat->Option E}{e:E}(l:H k=some e):own K β (aE H k (some e'))=own K β H:=by
 funext b;apply propext;constructor
 ·rintro(h|⟨id,i,a⟩)
  ·exact .inl h
  by_cases c:id=k
  ·subst c;exact .inr ⟨id,by rw[l];simp,a⟩
  rw[bu _ _ _ _ c] at i;exact .inr ⟨id,i,a⟩
 rintro(h|⟨id,i,a⟩)
 ·exact .inl h
 by_cases c:id=k
 ·subst c;exact .inr ⟨id,by rw[bs];simp,a⟩
 exact .inr ⟨id,by rw[bu _ _ _ _ c];exact i,a⟩
theorem Rel.BJ{K:Ctx}{β:Map}{s:S}{a:Act}{w:World}(h:Rel K β s a w)(k:Nat){e:E}(l:s.H k=some e)(o: ∀X,b4 β w X k e->b4 β w X k e'):Rel K β {s with H:=aE s.H k (some e')} a w:=by
 have dE:=Ry (K:=K) (β:=β) (e':=e') l;refine {h with heap:= ?_,ct:= ?_}
 ·intro id c m;show _/\b4 β w (own K β (aE s.H k (some e'))) id c;rw[dE];by_cases n:id=k
  ·subst n;have b:aE s.H id (some e') id=some c:=m;rw[bs] at b;cases b;obtain⟨p,q⟩:=h.heap id e l
   grind
  have b:aE s.H k (some e') id=some c:=m;rw[bu _ _ _ _ n] at b;exact h.heap id c b
 intro i;show aQ β w (own K β (aE s.H k (some e'))) _ _;rw[dE];exact h.ct i
section
variable {K:Ctx}{s:S}{d:Option Tmp}{ty:TypeId}{pos:String}{af:Array Edge}{g:Option (Nat×Bool)}
theorem Fj{f:FuncId}{c:Operand}{b:Array Operand}{k:Array TypeId}(l:List V)(args:List V)(r:V)
  (B:hL K.P f) (D:s.get c= .fn f l) (F: ∀i,d=some i->Nat.blt i K.nt=true) (L:eB (b.toList.map s.get++l) args) (R:e6 e5 args=true) (h:yx K.P K.G f args r):
  dh K ⟨d,.call {callee:= .value c,args:=b,argTypes:=k},ty,pos,af,g⟩ s (s.put d r):=by
 obtain⟨A,W,j,t⟩:=B;intro β a w next Q n I
 have v:A.name≠ "runtime.NumGoroutine" :=by simpa using j
 have x:A.body≠none:=by intro e;simp[e] at t
 obtain⟨us,y,z⟩:=(D▸n.get c).Au;have o:(execOp a.eval ⟨d,.call {callee:= .value c,args:=b,argTypes:=k},ty,pos,af,g⟩).run K.P w= .ok (.enter f (b.map a.eval++us)) w:=by
  simp[execOp,resolve,Deferred.ofValue,y,invoke,callFunc,W,v,x]
 unfold Oper.wp;rw[o,Oper.upon_enter];have m:=(cF.le ((n.k2 b.toList).app z) L).Bx R;have p:=h w (own K β s.H) _ n.vp n.BB m;have M:(List.map a.eval b.toList++us.toList).toArray=b.map a.eval++us:=by rw[<-q7,<-Array.toList_append]
 rw[M] at p;refine p.mono ?_;rintro e N ⟨u,rfl,q,T⟩;exact I β _ N ((n.grow q).put d F (T.any λ_ h=>h))
theorem nh{s:S}{d:Option Tmp}{e:E}:cg.app ⟨et d v,[(k,some e)],[(k,true)]⟩ s=(s.new k e).put d v:=by cases d<;>rfl
theorem lh{s:S}{d:Option Tmp}:cg.app ⟨et d v,[],[]⟩ s=s.put d v:=by cases d<;>rfl
theorem PY(a: ∀k,u k=false->s.u k=false)(l:hK K.nt d=true)(m:s.get x=v)
  (h:pL d u v i=some (e,c,b)):dh K ⟨d,.box t x,ty,pos,af,g⟩ s (e.app s):=by
 unfold pL at h;split at h
 ·split at h
  ·rename_i n o;cases h;rw[nh];exact SD _ (a _ n) x v (fu l) m o
  cases h
 cases h
theorem Qo{H:Nat->Option E}(x:Operand)(v:V)(e:List T)(m:v.val=true)(i:v.cs=e.map .t):uG P H ⟨d,.box t x,ty,pos,af,g⟩ [v] (.aT e):=by
 intro β w X a _ n o;obtain⟨k,p⟩:=(show aQ β w X v (a x) from o.1).cells m;have b:(execOp a ⟨d,.box t x,ty,pos,af,g⟩).run P w= .ok (.value (.pointer (some ⟨w.heap.size,0,none⟩))) (w.alloc (.cells (a x).cells t)):=by
  simp[execOp,Instr.box,newVar,newRow]
 refine⟨_,_,b,Ext.alloc _ _ _,?_⟩;refine .aT e w.heap.size 0 (λj=>(a x).cells.getD j undef) aY (λh=>by have:=n _ h;omega) (λj c=>?_) λj y l=>?_
 ·rw[dm,World.cell?_alloc_new]
  have:j<(a x).cells.size:=by rw[k,i];simpa using c
  simp[this]
 have c:j<(a x).cells.size:=by rw[k,i,dI];exact(bt.1 l).1
 have q:=p j (.t y) (a x).cells[j] (by rw[i,dU,l];rfl) (by simp[c]);cases q with
 |t _ _ h=>
  have:(a x).cells.getD j undef=(a x).cells[j]:=by simp[c]
  rw[this];exact h.mono (Ext.alloc X _ _) λ_ _ h=>h
theorem OV(a:hK K.nt d=true)(k:s.get x=v)
  (h:zn d v i=some (e,c,b)):dh K ⟨d,.box t x,ty,pos,af,g⟩ s (e.app s):=by
 unfold zn at h;split at h
 ·split at h
  ·rename_i l m n;cases h;rw[lh];exact BG (vals:=[kK v]) (fu a) ⟨k▸px _,trivial⟩ (Qo x _ l m (lj n))
  cases h
 cases h
theorem MR{a:List (Nat×bO)}(l:di K.P a){i:bO}(m:cS a t=some i)(o: ∀k,u k=false->s.u k=false)(p:hK K.nt d=true)
  (h:pL d u (fs i.z) n=some (e,c,b)):dh K ⟨d,.alloc t,ty,pos,af,g⟩ s (e.app s):=by
 unfold pL at h;split at h
 ·split at h
  ·rename_i q r;cases h;rw[nh];obtain⟨x,v,_⟩:=l _ _ m;exact Q4 _ (o _ q) (fu p) v r
  cases h
 cases h
theorem M2{c:List (Nat×bO)}(W:di K.P c){C:db}(f:C.bQ=c){H:Nat->Option E}{a:V}(F: ∀k e,H k=some e->s.H k=some e)
  (G:s.get x=a) (L:s.get y=v) (h:y4 C t H a v n=some (e,m,b)) (o:bS m):dh K ⟨none,.store t x y,ty,pos,af,g⟩ s (e.app s):=by
 subst f;unfold y4 at h;split at h
 ·cases h
 rename_i i j;obtain⟨U,Q,_⟩:=W _ _ j;split at h
 ·split at h
  ·rename_i cs p;split at h
   ·rename_i q z A u;cases h;exact Q2 _ _ _ _ cs v G L (F _ _ p) Q q z A u
   cases h
  cases h
 ·split at h
  ·rename_i I R M l N r B n p D;split at h
   ·rename_i q z A;cases h;obtain⟨rfl,rfl,T,rfl,_⟩:=o;exact MW x y _ _ _ I l r N G (v:=kK v) (by rw[L];exact px v) (lj D) q (F _ _ p) Q T (b9 z) (eb A)
   cases h
  cases h
 cases h
theorem xQ{k i n:Nat}: ∀{l:List (Nat×Nat×V)},bS (pJ k i n l)-> ∀c b e,(c,b,e)∈l->i<=b->b<i+n->c=k
 |h::l,a,c,b,e,hm,m,o=>by
  simp only[pJ] at a;rcases dy.1 hm with rfl|hm
  ·have q:Nat.ble i b=true:=Nat.ble_eq_true_of_le m;have r:Nat.blt b (i+n)=true:=by simpa[Nat.blt_eq] using o
   simp only[q,r,Bool.and_self,cond_true] at a;exact a.1
  cases p:(Nat.ble i h.2.1&&Nat.blt h.2.1 (i+n)) with
  |true=>rw[p] at a;exact xQ a.2 c b e hm m o
  |false=>rw[p] at a;exact xQ a c b e hm m o
theorem xR{k off n:Nat}: ∀{i:List (Nat×Nat×V)},bS (pN k off n i)-> ∀c b e,(c,b,e)∈i->off<=b->b<off+n->c≠k
 | [],_,_,_,_,hm,_,_=>by cases hm
 |h::i,a,c,b,e,hm,l,m=>by
  unfold pN at a;rcases dy.1 hm with rfl|hm
  ·have p:Nat.ble off b=true:=Nat.ble_eq_true_of_le l;have q:Nat.blt b (off+n)=true:=by simpa[Nat.blt_eq] using m
   simp only[p,q,Bool.and_self,cond_true] at a;exact a.1
  cases o:(Nat.ble off h.2.1&&Nat.blt h.2.1 (off+n)) with
  |true=>rw[o] at a;exact xR a.2 c b e hm l m
  |false=>rw[o] at a;exact xR a c b e hm l m
theorem LK{C:db}(iE:di K.P C.bQ){H:Nat->Option E}{a:V}{N:List bV}(hH: ∀k e,H k=some e->s.H k=some e)
  (A:s.get x=a) (hy:s.get y=v) (h:yQ C t H a v M=some (e,jB,N)) (B:bS jB):dh K ⟨none,.store t x y,ty,pos,af,g⟩ s (e.app s):=by
 unfold yQ at h;split at h
 ·rename_i i id gen sz k D r M T;obtain⟨Wt,U,_⟩:=iE _ _ T;split at h
  ·rename_i Y m F o dE si;split at h
   ·rename_i l c gd;cases h;simp only[Bool.and_eq_true] at c;obtain⟨rfl,da,bH,cH⟩:=B;obtain⟨jr,G⟩:=bS.app cH;obtain⟨cD,b0⟩:=tk gd jr;refine LC x y _ _ _ Y m o r v dE A hy c.1 c.2.1 (hH _ _ si) da U (b9 c.2.2.1) (by simpa[Nat.blt_eq] using c.2.2.2.2) bH (eb c.2.2.2.1) (xQ G) λj hj=>?_;have hj':=bg (show j<(l.map (·.2)).length by simp[cD];exact hj)
    grind
   cases h
  cases h
 ·rename_i i id gen sz k D q n r M T;obtain⟨Wt,U,_⟩:=iE _ _ T;split at h
  ·rename_i Y m F o dE si;split at h
   ·rename_i l c gd;cases h;simp only[Bool.and_eq_true] at c;obtain⟨rfl,da,bH,cH⟩:=B;obtain⟨jr,G⟩:=bS.app cH;obtain⟨G,nj⟩:=bS.app G;obtain⟨nj,HU⟩:=bS.app nj;obtain⟨cD,b0⟩:=tk gd jr;have L:=b9 c.2.2.1;have Q: ∀x,x∈(dE.drop q.toNat).take n->x∈dE:=λx A=>kc (hv A);have z: ∀x,x∈dE->x∈dE.take q.toNat\/x∈(dE.drop q.toNat).take n\/x∈(dE.drop q.toNat).drop n:=λx A=>by
     rw[<-tJ q.toNat dE,eW] at A;rcases A with h|h
     ·exact .inl h
     rw[<-tJ n (dE.drop q.toNat),eW] at h
     grind
    refine K1 x y _ _ _ Y m o r v dE A hy c.1 c.2.1 (hH _ _ si) da U L (by simpa[Nat.blt_eq] using c.2.2.2.2) bH (eb c.2.2.2.1) (λf u I hm=>?_) (λf u R hm=>?_) λj hj=>?_
    ·rcases eW.1 hm with b|b
     ·exact⟨I,hv b,λp=>a6 p.1 (xR nj f u I b p.2.1 p.2.2),λ_=>rfl⟩
     rcases eW.1 b with b|b
     ·obtain⟨R,ay,a2,a3⟩:=xh b;refine⟨R,Q _ ay,λp=>?_,λp=>a3 λW=>p ⟨xQ G f u R ay W.1 O,W.1,O⟩⟩
      grind
     exact⟨I,kc (kc b),λp=>a6 p.1 (xR HU f u I b p.2.1 p.2.2),λ_=>rfl⟩
    ·rcases z _ hm with b|b|b
     ·exact⟨R,eW.2 (.inl b)⟩
     ·obtain⟨v1,h2⟩:=xT (off:=D) (vs:=v.cs) b
      grind
     exact⟨R,eW.2 (.inr (eW.2 (.inr b)))⟩
    have hj':=bg (show j<(l.map (·.2)).length by simp[cD];exact hj)
    grind
   cases h
  cases h
 cases h
theorem dh.WI{K:Ctx}{s b c:S}(h:dh K o s b)(p:b.le K c):dh K o s c:=
 λβ a w next Q q r=>h β a w next Q q λi m n k=>let ⟨e,l⟩:=p i m n k;r e m n l
theorem D2{z:List T}: ∀{l:List (Nat×Nat)} {j m:Nat},rE z l=true->pR l j=some m->z[j]? =some .ek
 |p::l,j,m,h,a=>by
  simp only[rE,Bool.and_eq_true] at h;simp only[pR] at a;cases b:Nat.beq p.1 j with
  |true=>
   rw[<-b9 b];have c:=h.1;split at c
   ·assumption
   cases c
  |false=>rw[b] at a;exact D2 h.2 a
theorem Nz{K:Ctx}{s:S}(k:Nat){R:TypeId}{e n:Nat}{z:List T}(l:List de)(m:Nat)(B:s.H k=some (.arr R gen e (List.replicate n z)))(v:(Y l m).ty=R)(D:(Y l m).size=e)
  (I:rE z (Y l m).aJ=true):s.le K {s with H:=aE s.H k (some (.aw l m gen (List.replicate n (z.map gC)) []))}:=by
 intro β a w h;refine⟨_,h.drop k (.aw l m gen (List.replicate n (z.map gC)) []) (by rw[B];simp) ?_⟩;have o:=(h.heap k _ B).2;subst v;subst D;refine⟨o.1,?_⟩;have p: ∀b,own K (β.drop k) (aE s.H k (some (.aw l m gen (List.replicate n (z.map gC)) []))) b->own K β s.H b:=by
  rintro b (M|⟨id,v,D⟩)
  ·exact .inl M
  refine .inr ⟨id,λF=>?_,lg D⟩;by_cases W:id=k
  ·subst W;rw[B] at F;cases F
  rw[bu _ _ _ _ W] at v;exact v F
 rcases o.2 with ⟨ay,a2⟩|⟨b,N,ay,a2,a3,a4,a5⟩
 ·have:n=0:=by simpa using a2
  subst this;exact .inl ⟨ay,rfl,λc q=>q.1 rfl⟩
 refine .inr ⟨b,N,λ_ _ _=>False,ay,a2,by simpa using a3,λG P=>?_,λi j G x u A f U=>Cell.of ?_,λ_ _ _ h=>h.elim,λ_ _ _ _ _ h=>h.elim,λc=>⟨λq=>a6 rfl q.1,λ⟨_,_,q⟩=>q.elim⟩⟩
 ·obtain⟨V,rfl⟩:=ra.1 P
  grind
 rw[q'] at A;split at A
 ·rename_i L;cases A;rw[dU] at f;obtain⟨y,t,rfl⟩:=Option.map_eq_some_iff.1 f;have r:=(a5 i j z y u (by rw[q',bh L]) t U).mono (Ext.refl _ _) λb _=>p b;cases Q:(Y l m).du j with
  |none=>exact .ed _ _ _ r.s0 (λ_ h=>h)
  |some m2=>
   have:=D2 I Q;rw[t] at this;cases this;cases r;exact .nil _ _ λ_ h=>h
 cases A
theorem OP{C:db}(iE:di K.P C.bQ){w:V}{N:List bV}(L: ∀k,u k=false->s.u k=false)(cy:hK K.nt d=true)
  (hx:s.get x=v) (hy:s.get y=w) (h:zu C d t u v w M=some (e,jB,N)) (Q:bS jB):dh K ⟨d,.makeSlice t x y,ty,pos,af,g⟩ s (e.app s):=by
 unfold zu at h;split at h
 ·cases h
 rename_i i l;split at h
 ·rename_i o T;have eT:K.P.underlying t=some (.slice o):=(iE _ _ l).gm.2.2.2 o T;split at h
  ·cases h
  rename_i j W;obtain⟨mX,he,_⟩:=iE _ _ W;split at h
  ·rename_i n m k R M p r;split at h
   ·rename_i U f Y z;cases h;obtain⟨hnm,A,B,_⟩:=Q;obtain⟨jT,UH,rfl⟩:=lk A;have D:m=n:=O
    subst D;simp only[Bool.and_eq_true] at z;have c:=eb z.2;have I:m.toNat*j.bytes<=1000000000*200000:=mf O c;have bj:=iZ B;have W:=FN (K:=K) (s:=s) (d:=d) (ty:=ty) (pos:=pos) (af:=af) (g:=g) k (L _ U) x y o m.toNat p (fu cy) eT he (by rw[hx,<-bj]) (by rw[hy,<-bj]) (lj r) f Y z.1 O O;refine W.Ca λβ a w bH=>?_;have hk:((s.new k (.arr o 1 j.size (List.replicate m.toNat p))).put d (.aM k 1 j.size 0 m.toNat)).H k=some (.arr o 1 j.size (List.replicate m.toNat p)):=by
     cases d<;>exact bs _ _ _
    have A2:=bH.BJ k hk λX=>QN;rw[nh,List.length_replicate]
    have: ∀F G:E,({((s.new k F).put d (.aM k 1 j.size 0 m.toNat)) with H:=aE ((s.new k F).put d (.aM k 1 j.size 0 m.toNat)).H k (some G)}:S)=(s.new k G).put d (.aM k 1 j.size 0 m.toNat):=by
     intro F G;have L: ∀a b:Option E,aE (aE s.H k a) k b=aE s.H k b:=by
      intro a b;funext i;by_cases l:i=k
      ·subst l;rw[bs,bs]
      rw[bu _ _ _ _ l,bu _ _ _ _ l,bu _ _ _ _ l]
     cases d<;>simp only[S.put,S.new,L]
    grind
   cases h
  ·rename_i n m k jW d' q R M p r;split at h
   ·rename_i U f Y z;cases h;obtain⟨U',jh,hnm,A,B,_⟩:=Q;obtain⟨jT,UH,rfl⟩:=lk A;have D:m=n:=O
    subst D;simp only[Bool.and_eq_true] at f z;have c:=eb z.2;have I:m.toNat*j.bytes<=1000000000*200000:=mf O c;have bj:=iZ B;have W:=FN (K:=K) (s:=s) (d:=d) (ty:=ty) (pos:=pos) (af:=af) (g:=g) k (L _ U) x y o m.toNat p (fu cy) eT he (by rw[hx,<-bj]) (by rw[hy,<-bj]) (lj r) f.1 Y z.1 O O;have hk:((s.new k (.arr o 1 j.size (List.replicate m.toNat p))).put d (.aM k 1 j.size 0 m.toNat)).H k=some (.arr o 1 j.size (List.replicate m.toNat p)):=by
     cases d<;>exact bs _ _ _
    have cc:=Nz (K:=K) k d' q hk U' jh f.2;rw[nh,List.length_replicate]
    have: ∀F G:E,({((s.new k F).put d (.aM k 1 j.size 0 m.toNat)) with H:=aE ((s.new k F).put d (.aM k 1 j.size 0 m.toNat)).H k (some G)}:S)=(s.new k G).put d (.aM k 1 j.size 0 m.toNat):=by
     intro F G;have L: ∀a b:Option E,aE (aE s.H k a) k b=aE s.H k b:=by
      intro a b;funext i;by_cases l:i=k
      ·subst l;rw[bs,bs]
      rw[bu _ _ _ _ l,bu _ _ _ _ l,bu _ _ _ _ l]
     cases d<;>simp only[S.put,S.new,L]
    rw[this] at cc;exact W.WI cc
   cases h
  cases h
 cases h
theorem LM{C:db}(B:di K.P C.bQ)(_hn0:C.cB=K.cB){D:TypeId}{H:Nat->Option E}{w:V}{G:List cQ}(u: ∀k e,H k=some e->s.H k=some e)(I:hK K.nt d=true)
  (M:s.get x=v) (N:s.get y=w) (h:yS C d t D H v w F=some (e,G,n)) (o:bS G):dh K ⟨d,.call {callee:= .builtin .append,args:= #[x,y],argTypes:= #[t,D]},ty,pos,af,g⟩ s (e.app s):=by
 unfold yS at h;split at h
 ·cases h
 rename_i i T;split at h
 ·rename_i L p;have U:K.P.underlying t=some (.slice L):=(B _ _ T).gm.2.2.2 L p;split at h
  ·cases h
  rename_i j Q;obtain⟨mX,Y,_⟩:=B _ _ Q;split at h
  ·rename_i k gen W off len a R F hw;split at h
   ·rename_i e' c q b si;split at h
    ·rename_i h1 m r;cases h;obtain⟨rfl,rfl,rfl,rfl,l,z,A,_⟩:=o;obtain⟨aR,rfl⟩:=q0 l;simp only[Bool.and_eq_true] at m r;have e1:=b9 r.1;have e2:=b9 r.2;have jJ:=b9 h1;subst e1;subst e2;subst jJ;have f:(b.length+a.length)*j.bytes<=1000000000*140000:=mf aR (eb m.2.2);have Q:=P3 (K:=K) (s:=s) (d:=d) (ty:=ty) (pos:=pos) (af:=af) (g:=g) (gen:=c) (size:=j.size) k x y e' b a (fu I) M (by rw[N,<-hw];exact px w) (u _ _ si) U Y m.1 m.2.1 z A O O;rw[dq]
     have: ∀v e,cg.app ⟨et d v,[(k,some e)],[]⟩ s=({s with H:=aE s.H k (some e)}:S).put d v:=by intro v e;cases d<;>rfl
     grind
    cases h
   cases h
  cases h
 cases h
theorem Lp{C:db}(iE:di K.P C.bQ){ju:TypeId}{H:Nat->Option E}{w:V}(G: ∀k e,H k=some e->s.H k=some e)(f:hK K.nt d=true)
  (u:s.get x=v) (I:s.get y=w) (h:ym C d t ju H v w Q=some (e,jB,W)) (o:bS jB):dh K ⟨d,.call {callee:= .builtin .append,args:= #[x,y],argTypes:= #[t,ju]},ty,pos,af,g⟩ s (e.app s):=by
 unfold ym at h;split at h
 ·cases h
 rename_i i aG;split at h
 ·rename_i M N;have T:K.P.underlying t=some (.slice M):=(iE _ _ aG).gm.2.2.2 M N;split at h
  ·cases h
  rename_i j U;obtain⟨mX,Y,_⟩:=iE _ _ U;split at h
  ·rename_i k gen r off len dF g3 z3 XJ n3 R Q;split at h
   ·rename_i d' m b a W8 m3 TU cB c U3 z A;split at h
    ·rename_i l n L;cases h;obtain⟨rfl,rfl,rfl,rfl,qn,kA,rfl,rfl,h3,B,A1,A2,_⟩:=o;obtain⟨aR,rfl⟩:=q0 B;simp only[Bool.and_eq_true] at l n L;have D:=b9 l.1;have F:=b9 l.2;have jJ:=b9 L.1;subst D;subst F;subst jJ;have hmul:(a.length+(cB::c).length)*j.bytes<=1000000000*140000:=mf aR (eb n.2.2);have U:=OH (K:=K) (s:=s) (d:=d) (ty:=ty) (pos:=pos) (af:=af) (g:=g) (gen:=b) (size:=j.size) k dF TU (c.length+1) x y M d' W8 m m3 a (cB::c) U3 (fu f) u I (G _ _ z) (G _ _ A) h3 rfl T Y n.1 qn kA A1 A2 (Nat.succ_pos _) L.2.1 L.2.2 O O;rw[dq]
     have: ∀v e,cg.app ⟨et d v,[(k,some e)],[]⟩ s=({s with H:=aE s.H k (some e)}:S).put d v:=by intro v e;cases d<;>rfl
     grind
    cases h
   ·rename_i e' b p a Am z A;split at h
    ·rename_i l n;cases h;obtain⟨rfl,rfl,rfl,rfl,q,Uz,oE,rfl,_⟩:=o;simp only[Bool.and_eq_true] at l n;have D:=b9 l.1;have F:=b9 l.2;have r1:=b9 n.1;have r2:=b9 n.2.1;have hp:0<j.size:=by simpa[Nat.blt_eq] using n.2.2
     subst D;subst F;subst r1;subst r2;subst q;have U:=MX (K:=K) (s:=s) (d:=d) (ty:=ty) (pos:=pos) (af:=af) (g:=g) _ _ _ _ x y _ _ (fu f) u I (G _ _ z) T Y hp Uz oE
     have: ∀v e,cg.app ⟨et d v,[(dF,some e)],[]⟩ s=({s with H:=aE s.H dF (some e)}:S).put d v:=by intro v e;cases d<;>rfl
     grind
    cases h
   cases h
  ·rename_i k gen r off len Q;split at h
   ·rename_i e' b p a z;split at h
    ·rename_i l n;cases h;obtain⟨rfl,rfl,q,_⟩:=o;simp only[Bool.and_eq_true] at l;have D:=b9 l.1;have F:=b9 n;have hp:0<j.size:=by simpa[Nat.blt_eq] using l.2
     subst D;subst F;subst q;rw[lh];exact LU (K:=K) (s:=s) (d:=d) (ty:=ty) (pos:=pos) (af:=af) (g:=g) _ _ x y _ _ _ (fu f) u (cV.of_eq I) (G _ _ z) T Y hp
    cases h
   cases h
  cases h
 cases h
theorem Sd{x:T}(h:tC v=some x):v= .t x:=by
 cases v<;>simp[tC] at h
 grind
theorem CR{d:de}: ∀{j:Nat} {a:List V} {r:List T} {c:List (Nat×Nat×V)},tu d j a=some (r,c)->r.length=a.length/\
  (∀i b v,(i,b,v)∈c->i=0/\ ∃k,b=j+k/\a[k]? =some v)/\(∀(k:Nat) x,r[k]? =some x->(∃v,(0,j+k,v)∈c)\/(d.du (j+k)=none/\a[k]? =some (.t x)))
 |j,[],r,c,h=>by cases h;exact⟨rfl,λ_ _ _ h=>a6 h List.not_mem_nil,λk x h=>by simp at h⟩
 |j,v::a,r,c,h=>by
  simp only[tu] at h;split at h
  ·cases h
  rename_i G n B;obtain⟨ay,a2,a3⟩:=CR B;have y: ∀i b c7,(i,b,c7)∈n->i=0/\ ∃k,b=j+k/\(v::a)[k]? =some c7:=λi b c7 hm=>by
   obtain⟨D,k,L,F⟩:=a2 i b c7 hm;exact⟨D,k+1,O,by simpa using F⟩
  split at h
  ·rename_i Q z;cases A:v.one with
   |false=>rw[A] at h;cases h
   |true=>
    rw[A] at h;cases h;refine⟨by simp[ay],λi b c7 hm=>?_,λk x l=>?_⟩
    ·rcases dy.1 hm with e|hm
     ·cases e;exact⟨rfl,0,rfl,rfl⟩
     exact y i b c7 hm
    cases k with
    |zero=>exact .inl ⟨v,ev⟩
    |succ k=>
     have:=a3 k x (by simpa using l);rw[show j+1+k=j+(k+1) by omega] at this;rcases this with ⟨c7,o⟩|⟨m,p⟩
     ·exact .inl ⟨c7,dV _ o⟩
     exact .inr ⟨m,by simpa using p⟩
  rename_i z;split at h
  ·rename_i R q;cases h;refine⟨by simp[ay],y,λk x l=>?_⟩;cases k with
   |zero=>simp at l;subst l;exact .inr ⟨z,by simp[Sd q]⟩
   |succ k=>
    have:=a3 k x (by simpa using l);rw[show j+1+k=j+(k+1) by omega] at this;rcases this with m|⟨m,p⟩
    ·exact .inl m
    exact .inr ⟨m,by simpa using p⟩
  cases h
theorem Sn{u:TypeDesc}{p:Nat}(k:Nat)(hk:s.u k=false)(n:Array (Nat×Operand))(e:TypeId)(l U:List V)(q:List de)(m:Nat)(r:List T)(N:List (Nat×Nat×V))(cy: ∀i,d=some i->Nat.blt i K.nt=true)(A:eB ((n.toList.map (·.2)).map s.get) l)
  (hu:K.P.underlying t=some (.slice e)) (he:bN K.P e u z size p) (B:Nat.beq n.toList.length l.length=true) (hp:Nat.blt 0 size=true) (D:Nat.ble (1*size) 16777216=true)
  (gd:ik (λi=>some (i*size,size)) (List.replicate (1*size) .cr) ((n.toList.map (·.1)).zip l)=some U) (U5:tu (Y q m) 0 U=some (r,N)) (hcl:U.length=size) (qn:(Y q m).size=size) (kA:(Y q m).ty=e):
  dh K ⟨d,.buildSlice t 1 n,ty,pos,af,g⟩ s ((s.new k (.aw q m 1 [r] N)).put d (.aM k 1 size 0 1)):=by
 have UQ:0<size:=by simpa[Nat.blt_eq] using hp
 obtain⟨tb,HQ,V6⟩:=CR U5;intro β a w next Q bH hkk
 have AG:cF β w (own K β s.H) l ((n.toList.map (·.2)).map a.eval):=(bH.k2 _).le A;have sx:=qF a.eval n.toList;obtain⟨b,h1,h2⟩:=qY (β:=β) (w:=w) (X:=own K β s.H) (λi=>some (i*size,size)) (n.toList.map (·.1)) l _ (List.replicate (1*size) .cr)
  ((Array.range (1*size)).map ((if 1*size=0 then #[] else z.cells)[· %(if 1*size=0 then #[] else z.cells).size]!)) _ (xO _ _ _ _ _ aY) AG (by simpa using b9 B) gd
 have F:(execOp a.eval ⟨d,.buildSlice t 1 n,ty,pos,af,g⟩).run K.P w= .ok (.value (.slice (some ⟨w.heap.size,0,none⟩) 1 1)) (w.alloc (.cells b e)):=by
  have G:(n.toList.map λx=>match x with|(i,x)=>(i,a.eval x))=(n.toList.map (·.1)).zip ((n.toList.map (·.2)).map a.eval):=by rw[<-sx]
  have aR: ¬(1*size>2^24):=by have:=eb D;omega
  have h0: ¬1*size=0:=O
  simp only[execOp,Instr.buildSlice,Sem.run_bind,run_underlying hu,Result.andThen_ok,he.run_sizeOf,aR,if_false,Array.toList_map];simp only[h0,if_false] at h1;simp only[h0,if_false,Sem.run_pure,Sem.run_bind,he.o8,Result.andThen_ok];rw[G,h1];rfl
 unfold Oper.wp;rw[F];have o:b.size=size:=by
  have h:=h2.1
  grind
 have L:=bH.Bw k 1 hk b e (.aw q m 1 [r] N) (λβ' X' w' hw lV R hf=>⟨cL _,Or.inr ⟨w.heap.size,b,λ_ _ _=>False,lV,by subst hw;rw[kA];exact h' _ _,by rw[o,qn];simp,λrow W=>by rw[rb.1 W,tb,hcl,qn],λi j row x y ay a2 a3=>by
  have aG:=(bt.1 ay).1;have Un:i=0:=by simpa using aG
  subst Un;simp at ay;subst ay;rw[fc,dm] at a3;refine⟨λv A=>⟨?_,λ_ h=>h⟩,λcj=>?_⟩
  ·obtain⟨_,bz,f,G⟩:=HQ _ _ _ A;rw[dm] at f;subst f;exact R _ _ (h2.2 _ _ y G (by simpa using a3))
  rcases V6 j x a2 with ⟨v,A⟩|⟨f,G⟩
  ·rw[dm] at A;exact a6 A (cj v)
  rw[dm] at f;rw[f];have h6:=R _ _ (h2.2 _ _ y G (by simpa using a3));cases h6 with|t _ _ h=>exact .ed _ _ _ h λ_ h=>h,λ_ _ _ h=>h.elim,λ_ _ _ _ _ h=>h.elim,λc=>⟨λh=>a6 h (hf c),λ⟨_,_,h⟩=>h.elim⟩⟩⟩)
 have I:(w.alloc (.cells b e)).heap.size=w.heap.size+1:=World.size_alloc ..;have fw:(w.alloc (.cells b e)).shape? w.heap.size=some (e,b.size):=by unfold World.shape?;rw[h']
 have M:aQ (β.put k (some (some w.heap.size,1))) (w.alloc (.cells b e)) (own K (β.put k (some (some w.heap.size,1))) (s.new k (.aw q m 1 [r] N)).H) (.aM k 1 size 0 1)
   (.slice (some ⟨w.heap.size,0*size,none⟩) 1 1):= .aM k 1 size 0 1 1 w.heap.size b.size e (cL _) (bs _ _ _) (I▸lx _) fw (by rw[o];omega) (cL _) (by unfold maxLen;omega)
 rw[fc] at M;exact hkk _ _ _ (L.put d cy M)
theorem EX{n j:Nat}{v:V}: ∀{a:List V} {i:Nat},(n,j,v)∈mw i a->j=0/\ ∃k,n=i+k/\a[k]? =some v
 |x::a,i,h=>by
  simp only[mw] at h;rcases dy.1 h with h|h
  ·cases h;exact⟨rfl,0,rfl,rfl⟩
  obtain⟨e,k,c,b⟩:=EX h;exact⟨e,k+1,O,by simpa using b⟩
theorem EW{v:V}: ∀{vs:List V} {i k:Nat},vs[k]? =some v->(i+k,0,v)∈mw i vs
 |x::vs,i,0,h=>by
  simp at h;subst h;exact ev
 |x::vs,i,k+1,h=>by have:=EW (i:=i+1) (k:=k) (vs:=vs) (by simpa using h);rw[show i+1+k=i+(k+1) by omega] at this;exact dV _ this
theorem Sp{u:TypeDesc}{b A:Nat}(k:Nat)(hk:s.u k=false)(n:Nat)(p:Array (Nat×Operand))(e:TypeId)(o B:List V)(D:List de)(m:Nat)(cy: ∀i,d=some i->Nat.blt i K.nt=true)(N:eB ((p.toList.map (·.2)).map s.get) o)
  (hu:K.P.underlying t=some (.slice e)) (he:bN K.P e u z b A) (F:Nat.beq p.toList.length o.length=true) (cj:Nat.blt 0 n=true) (T:b=1) (G:Nat.ble (n*b) 16777216=true)
  (gd:ik (λi=>some (i*b,b)) (List.replicate (n*b) .cr) ((p.toList.map (·.1)).zip o)=some B) (hcl:B.length=n) (U:(Y D m).size=1) (kA:(Y D m).ty=e):
  dh K ⟨d,.buildSlice t n p,ty,pos,af,g⟩ s ((s.new k (.aw D m 1 (List.replicate n [.aa []]) (mw 0 B))).put d (.aM k 1 1 0 n)):=by
 subst T;have L:0<n:=by simpa[Nat.blt_eq] using cj
 intro β a w next Q bH hkk
 have AG:cF β w (own K β s.H) o ((p.toList.map (·.2)).map a.eval):=(bH.k2 _).le N;have sx:=qF a.eval p.toList;obtain⟨l,h1,h2⟩:=qY (β:=β) (w:=w) (X:=own K β s.H) (λi=>some (i*1,1)) (p.toList.map (·.1)) o _ (List.replicate (n*1) .cr)
  ((Array.range (n*1)).map ((if n*1=0 then #[] else z.cells)[· %(if n*1=0 then #[] else z.cells).size]!)) _ (xO _ _ _ _ _ aY) AG (by simpa using b9 F) gd
 have Xk:=eb G;have R:(execOp a.eval ⟨d,.buildSlice t n p,ty,pos,af,g⟩).run K.P w= .ok (.value (.slice (some ⟨w.heap.size,0,none⟩) n n)) (w.alloc (.cells l e)):=by
  have e2:(p.toList.map λx=>match x with|(i,x)=>(i,a.eval x))=(p.toList.map (·.1)).zip ((p.toList.map (·.2)).map a.eval):=by rw[<-sx]
  have aR: ¬(n*1>2^24):=O
  have h0: ¬n*1=0:=O
  simp only[execOp,Instr.buildSlice,Sem.run_bind,run_underlying hu,Result.andThen_ok,he.run_sizeOf,aR,if_false,Array.toList_map];simp only[h0,if_false] at h1;simp only[h0,if_false,Sem.run_pure,Sem.run_bind,he.o8,Result.andThen_ok];rw[e2,h1];rfl
 unfold Oper.wp;rw[R];have q:l.size=n:=by
  have h:=h2.1;rw[kO] at h;omega
 have W:=bH.Bw k 1 hk l e (.aw D m 1 (List.replicate n [.aa []]) (mw 0 B)) (λβ' X' w' hw L lX hf=>⟨cL _,Or.inr ⟨w.heap.size,l,λ_ _ _=>False,L,by subst hw;rw[kA];exact h' _ _,by rw[q,U];simp,λf r=>by rw[(ra.1 r).2,U];rfl,λi j f x y ay a2 a3=>by
  have aG:=(bt.1 ay).1;rw[List.length_replicate] at aG;have r:f=[.aa []]:=(ra.1 (bB ay)).2;subst r;have hj0:j=0:=by
   have:=(bt.1 a2).1;simpa using this
  subst hj0;rw[U,Nat.mul_one,nF] at a3;refine⟨λv N=>⟨?_,λ_ h=>h⟩,λoF=>?_⟩
  ·obtain⟨_,bz,e1,e2⟩:=EX N;rw[dm] at e1;subst e1;exact lX _ _ (h2.2 _ _ y e2 (by simpa using a3))
  have bj:=bg (O:i<B.length)
  have:=EW (i:=0) bj;rw[dm] at this;exact a6 this (oF _),λ_ _ _ h=>h.elim,λ_ _ _ _ _ h=>h.elim,λc=>⟨λh=>a6 h (hf c),λ⟨_,_,h⟩=>h.elim⟩⟩⟩)
 have I:(w.alloc (.cells l e)).heap.size=w.heap.size+1:=World.size_alloc ..;have fw:(w.alloc (.cells l e)).shape? w.heap.size=some (e,l.size):=by unfold World.shape?;rw[h']
 have M:aQ (β.put k (some (some w.heap.size,1))) (w.alloc (.cells l e)) (own K (β.put k (some (some w.heap.size,1))) (s.new k (.aw D m 1 (List.replicate n [.aa []]) (mw 0 B))).H) (.aM k 1 1 0 n)
   (.slice (some ⟨w.heap.size,0*1,none⟩) n n):= .aM k 1 1 0 n n w.heap.size l.size e (cL _) (bs _ _ _) (I▸lx _) fw (by rw[q];omega) (cL _) (by unfold maxLen;omega)
 rw[fc] at M;exact hkk _ _ _ (W.put d cy M)
theorem SC{u:TypeDesc}{B:Nat}(k:Nat)(hk:s.u k=false)(n:Nat)(p:Array (Nat×Operand))(e:TypeId)(o:List V)(c:List (List T))(cy: ∀i,d=some i->Nat.blt i K.nt=true)(bG:eB ((p.toList.map (·.2)).map s.get) o)
  (hu:K.P.underlying t=some (.slice e)) (he:bN K.P e u z size B) (G:Nat.beq p.toList.length o.length=true)
  (cj:c.length=n) (hp:Nat.blt 0 size=true) (D: ∀l,l∈c->l.length=size) (A:Nat.ble (n*size) 16777216=true)
  (gd:ik (λi=>some (i*size,size)) (List.replicate (n*size) .cr) ((p.toList.map (·.1)).zip o)=some (c.flatten.map .t)):
  dh K ⟨d,.buildSlice t n p,ty,pos,af,g⟩ s ((s.new k (.arr e 1 size c)).put d (.aM k 1 size 0 c.length)):=by
 subst cj;have UQ:0<size:=by simpa[Nat.blt_eq] using hp
 intro β a w next Q bH U
 have Y:cF β w (own K β s.H) o ((p.toList.map (·.2)).map a.eval):=(bH.k2 _).le bG;have sx:=qF a.eval p.toList;obtain⟨m,v,F⟩:=qY (β:=β) (w:=w) (X:=own K β s.H) (λi=>some (i*size,size)) (p.toList.map (·.1)) o _ (List.replicate (c.length*size) .cr)
  ((Array.range (c.length*size)).map ((if c.length*size=0 then #[] else z.cells)[· %(if c.length*size=0 then #[] else z.cells).size]!)) _ (xO _ _ _ _ _ aY) Y (by simpa using b9 G) gd
 have L:(execOp a.eval ⟨d,.buildSlice t c.length p,ty,pos,af,g⟩).run K.P w= .ok (.value (.slice (some ⟨w.heap.size,0,none⟩) c.length c.length)) (w.alloc (.cells m e)):=by
  have e2:(p.toList.map λx=>match x with|(i,x)=>(i,a.eval x))=(p.toList.map (·.1)).zip ((p.toList.map (·.2)).map a.eval):=by rw[<-sx]
  have aR: ¬(c.length*size>2^24):=by have:=eb A;omega
  simp only[execOp,Instr.buildSlice,Sem.run_bind,run_underlying hu,Result.andThen_ok,he.run_sizeOf,aR,if_false,Array.toList_map];by_cases N:c.length*size=0
  ·simp only[N,if_true] at v;simp only[N,if_true,Sem.run_pure,Sem.run_bind,Result.andThen_ok];rw[e2,v];rfl
  simp only[N,if_false] at v;simp only[N,if_false,Sem.run_pure,Sem.run_bind,he.o8,Result.andThen_ok];rw[e2,v];rfl
 unfold Oper.wp;rw[L];have q:m.size=c.flatten.length:=by
  have h:=F.1
  grind
 have R:c.flatten.length=c.length*size:=by
  rw[List.length_flatten]
  have:c.map List.length=List.replicate c.length size:=List.eq_replicate_iff.2 ⟨aY,λb aR=>by obtain⟨r,bH,rfl⟩:=fU.1 aR;exact D r bH⟩;rw[this];simp
 have W: ∀(c:List (List T)),(∀l,l∈c->l.length=size)-> ∀(i j:Nat) (l:List T) (x:T),c[i]? =some l->l[j]? =some x->c.flatten[i*size+j]? =some x:=by
  intro c;induction c with
  |nil=>intro _ i j l x h _;simp at h
  |cons r c l0=>
   intro hs i j l x v F;have bH:=hs r aY;rw[List.flatten_cons];cases i with
   |zero=>
    simp at v;subst v
    have:=(bt.1 F).1;rw[fc,dm,gI this];exact F
   |succ i=>
    simp at v;rw[gH (by rw[bH,dM];omega)];rw[show(i+1)*size+j-r.length=i*size+j by rw[bH,dM];omega];exact l0 (λl h=>hs l (by simp[h])) i j l x v F
 have f:=bH.new k 1 hk m e (.arr e 1 size c) (λβ' X' w' hw lV lX=>⟨cL _,Or.inr ⟨w.heap.size,m,lV,by subst hw;exact h' _ _,by rw[q,R];exact cL _,D,λi j l x y ay a2 a3=>by
  have h5:=W c D i j l x ay a2;have h6:=F.2 (i*size+j) (.t x) y (by rw[dU,h5];rfl) (by simpa using a3);have ig:=lX _ _ h6;cases ig with|t _ _ h=>exact h⟩⟩)
 have I:(w.alloc (.cells m e)).heap.size=w.heap.size+1:=World.size_alloc ..;have fw:(w.alloc (.cells m e)).shape? w.heap.size=some (e,m.size):=by unfold World.shape?;rw[h']
 have M:aQ (β.put k (some (some w.heap.size,1))) (w.alloc (.cells m e)) (own K (β.put k (some (some w.heap.size,1))) (s.new k (.arr e 1 size c)).H) (.aM k 1 size 0 c.length)
   (.slice (some ⟨w.heap.size,0*size,none⟩) c.length c.length):= .aM k 1 size 0 c.length c.length w.heap.size m.size e (cL _) (bs _ _ _) (I▸lx _) fw (by rw[q,R];simp) (cL _)
    (by
     have aR:=eb A;unfold maxLen
     have:c.length*1<=c.length*size:=Nat.mul_le_mul_left _ O;omega)
 rw[fc] at M;exact U _ _ _ (f.put d cy M)
theorem PR{C:db}(W:di K.P C.bQ){n:Nat}{m:Array (Nat×Operand)}{f:List bV}{I:List cQ}(M: ∀k,u k=false->s.u k=false)(A:hK K.nt d=true)
  (G:a=(m.toList.map (·.2)).map s.get) (h:zS C d t n (m.toList.map (·.1)) u a f=some (e,I,F)) (L:bS I):dh K ⟨d,.buildSlice t n m,ty,pos,af,g⟩ s (e.app s):=by
 unfold zS at h;split at h
 ·cases h
 rename_i i N;split at h
 ·rename_i p Q;have B:K.P.underlying t=some (.slice p):=(W _ _ N).gm.2.2.2 p Q;split at h
  ·cases h
  rename_i j T;obtain⟨mX,D,_⟩:=W _ _ T;split at h
  ·rename_i k f R;split at h
   ·rename_i o;cases h
    have:m= #[]:=by
     have:m.toList=[]:=by simpa using R
     grind
    subst this;rw[nh];exact P2 k (M _ o) p (fu A) B D
   cases h
  ·split at h
   ·cases h
   rename_i cs c;split at h
   ·cases h
   rename_i q l;split at h
   ·rename_i U o r v Y;cases h;have b:=b9 o;obtain⟨x,y,z⟩:=tX j.size _ q b;rw[nh];refine SC _ (M _ U) _ m p (ff a) _ (fu A) (by rw[G];exact jn _) B D (by rw[oP];simpa using r) x Y y v (by rw[c,z,lj l])
   cases h
  ·split at h
   ·cases h
   rename_i cs c;split at h
   ·cases h
   rename_i q l;split at h
   ·rename_i o r v;cases h;have b:=b9 o;obtain⟨x,y,z⟩:=tX j.size _ q b;rw[lh];rw[<-L.1];refine BG (vals:=ff a) (fu A) ?_ (Jn _ m p (ff a) _ B D ?_ (by simp[x]) y v (by rw[c,z,lj l]))
    ·rw[G];simp only[Op.operands];exact jn _
    rw[oP];simpa using r
   cases h
  ·split at h
   ·cases h
   rename_i cs c;split at h
   ·cases h
   rename_i q l;split at h
   ·rename_i o r v;cases h;have b:=b9 o;obtain⟨x,y,z⟩:=tX j.size _ q b;rw[lh];refine BG (vals:=ff a) (fu A) ?_ (Jn _ m p (ff a) _ B D ?_ (by simp[x]) y v (by rw[c,z,lj l]))
    ·rw[G];simp only[Op.operands];exact jn _
    rw[oP];simpa using r
   cases h
  cases h
 cases h
theorem OQ{C:db}(G:di K.P C.bQ){n:Nat}{b:Array (Nat×Operand)}{o p:List bV}(L: ∀k,u k=false->s.u k=false)(Q:hK K.nt d=true)
  (R:a=(b.toList.map (·.2)).map s.get) (h:zv C d t n (b.toList.map (·.1)) u a o=some (e,c,p)):dh K ⟨d,.buildSlice t n b,ty,pos,af,g⟩ s (e.app s):=by
 unfold zv at h;split at h
 ·cases h
 rename_i i I;split at h
 ·rename_i x z;have W:K.P.underlying t=some (.slice x):=(G _ _ I).gm.2.2.2 x z;split at h
  ·cases h
  rename_i j M;obtain⟨U,f,_⟩:=G _ _ M;split at h
  ·rename_i k y m o;split at h
   ·cases h
   rename_i cs q;split at h
   ·cases h
   rename_i r N A;split at h
   ·rename_i B v l D F;cases h;simp only[Bool.and_eq_true] at v l;rw[nh];exact Sn k (L _ B) b x (pX ((Y y m).du 0) a) cs y m r N (fu Q) (by rw[R];exact RB _ _) W f (by rw[LS];simpa using l.1) F D q A (b9 v.1) (b9 v.2) (b9 l.2)
   cases h
  ·rename_i k y m o _;split at h
   ·cases h
   rename_i cs q;split at h
   ·rename_i B v l D F;cases h;simp only[Bool.and_eq_true] at v l;have T:=b9 v.1;rw[nh];exact Sp k (L _ B) _ b x (ff a) cs y m (fu Q) (by rw[R];exact jn _) W f (by rw[oP];simpa using l.1) F T D q (b9 v.2.1) (b9 l.2.2) (b9 l.2.1)
   cases h
  cases h
 cases h
theorem OU{C:db}(x:C.P=K.P)(y:C.G=K.G){c:Operand}{i:Array Operand}{k:Array TypeId}(z:hK K.nt d=true)
  (q:a=s.get c::i.toList.map s.get) (h:zm C d a n=some (e,m,b)) (r:bS m):dh K ⟨d,.call {callee:= .value c,args:=i,argTypes:=k},ty,pos,af,g⟩ s (e.app s):=by
 unfold zm at h;split at h
 ·rename_i f l args;split at h
  ·split at h
   ·rename_i o;cases h;rw[lh];obtain⟨⟨v,p⟩,_⟩:=r;rw[x] at v p;rw[y] at p;simp only[List.cons.injEq] at q;exact Fj l _ _ v q.1.symm (fu z) (by rw[<-q.2];exact jn _) o p
   cases h
  ·cases h;rw[lh];obtain⟨o,⟨v,p⟩,_⟩:=r;rw[x] at v p;rw[y] at p;simp only[List.cons.injEq] at q;exact Fj l _ _ v q.1.symm (fu z) (by rw[<-q.2];exact jn _) o p
  cases h
 cases h
mutual
theorem D9{a W:Map}{w b:World}{X j:Nat->Prop}: ∀{v:V} {u:Value},nY v=true->aQ a w X v u->aQ W b j v u
 | .t (.int _ _),u,_,h=>by rw[cW h];exact .t _ _ (.int _ _)
 | .t (.bool _),u,_,h=>by rw[kG h];exact .t _ _ (.bool _)
 | .t (.str _),u,_,h=>by rw[fA h];exact .t _ _ (.str _)
 | .agg cs,u,e,h=>by
  simp only[nY] at e;cases h with|agg _ l m h=>exact .agg _ l m (λi c u k n=>yk e i c u k (h i c u k n))
 | .bI cs,u,e,h=>by
  simp only[nY] at e;cases h with|bI _ l m h=>exact .bI _ l m (λi c u k n=>yk e i c u k (h i c u k n))
 | .t (.aa _),_,e,_| .t .ek,_,e,_| .t .gU,_,e,_| .t .eN,_,e,_| .t .jo,_,e,_| .t .err,_,e,_=>by simp[nY] at e
 | .ref _ _,_,e,_| .aT _,_,e,_| .aM _ _ _ _ _,_,e,_| .ca _ _ _ _ _,_,e,_| .fn _ _,_,e,_| .cr,_,e,_=>by simp[nY] at e
theorem yk{a W:Map}{w b:World}{X j:Nat->Prop}: ∀{cs:List V},pK cs=true-> ∀(i:Nat) c u,cs[i]? =some c->aQ a w X c u->aQ W b j c u
 | [],_,_,_,_,h,_=>by simp at h
 |c::cs,e,0,l,u,k,h=>by
  simp only[pK,Bool.and_eq_true] at e;simp at k;subst k;exact D9 e.1 h
 |c::cs,e,i+1,l,u,k,h=>by simp only[pK,Bool.and_eq_true] at e;exact yk e.2 i l u (by simpa using k) h
end
theorem b4.read{β:Map}{w:World}{X N:Nat->Prop}{a:List (List T)}{u:Value}(h:b4 β w X k (.arr t gen size a))(A:aQ β w X (.aM k gen size 0 a.length) u)
  (B: ∀b,N b->X b) (D: ∀b,At β k b-> ¬N b):b8 w N (.aa a) u:=by
 obtain⟨q,r⟩:=hi h;rcases eh A r with ⟨v,b,n,F,rfl,m,G,I,L,Q,M⟩|⟨m,_,R,rfl⟩
 ·subst m;rcases h.2 with ⟨o,y⟩|⟨P,l,o,y,U,z,W⟩
  ·rw[r] at o;cases o
  rw[r] at o;cases o;rw[fc];refine .aa a b 0 size v (λi j=>l.getD (i*size+j) undef) G (D b (.inl ⟨_,r⟩)) Q z (λi j aG f=>?_) λi j p x ay a2=>?_
  ·have c:i*size+j<l.size:=by
    have:(i+1)*size<=a.length*size:=dn _ aG;rw[dM] at this;omega
   rw[dm];simp[World.cell?,y,c]
  have aG:=(bt.1 ay).1;have f:j<size:=by rw[<-z p (bB ay)];exact(bt.1 a2).1
  have c:i*size+j<l.size:=by
   have:(i+1)*size<=a.length*size:=dn _ aG
   grind
  have:=W i j p x l[i*size+j] ay a2 (by simp[c]);have e:l.getD (i*size+j) undef=l[i*size+j]:=by simp[c]
  rw[e];exact this.mono (Ext.refl _ _) λb _=>B b
 have:a=[]:=List.length_eq_zero_iff.1 R;subst this;exact .eI _ _
theorem b4.Wi{β:Map}{w:World}{X F:Nat->Prop}{l:List de}{m:Nat}{a:List (List T)}{u:Value}(h:b4 β w X k (.aw l m gen a []))(W:aQ β w X (.aM k gen (Y l m).size 0 a.length) u)
  (f: ∀b,F b->X b) (L: ∀b,At β k b-> ¬F b):b8 w F (.aa a) u:=by
 obtain⟨q,A⟩:=re h;rcases eh W A with ⟨G,b,n,t,rfl,o,I,hs,M,N,hm⟩|⟨o,_,P,rfl⟩
 ·subst o;rcases h.2 with ⟨p,Q⟩|⟨e3,r,B,p,Q,h3,R,U,_,_,V⟩
  ·rw[A] at p;cases p
  rw[A] at p;cases p;rw[fc];have v: ∀i j,i<a.length->j<(Y l m).size->i*(Y l m).size+j<r.size:=λi j aG D=>by
   have:(i+1)*(Y l m).size<=a.length*(Y l m).size:=dn _ aG
   grind
  refine .aa a b 0 (Y l m).size G (λi j=>r.getD (i*(Y l m).size+j) undef) I (L b (.inl ⟨_,A⟩)) N R (λi j aG D=>?_) λi j y x ay a2=>?_
  ·have:=v i j aG D;rw[dm];simp[World.cell?,Q,this]
  have aG:=(bt.1 ay).1;have D:j<(Y l m).size:=by rw[<-R y (bB ay)];exact(bt.1 a2).1
  have z:=v i j aG D
  have:=(U i j y x r[i*(Y l m).size+j] ay a2 (by simp[z])).none;have e:r.getD (i*(Y l m).size+j) undef=r[i*(Y l m).size+j]:=by simp[z]
  rw[e];exact this.q4 f λc bj=>L c (.inr ((V c).2 ⟨i,j,bj⟩))
 have:a=[]:=List.length_eq_zero_iff.1 P;subst this;exact .eI _ _
def py:V->List Nat
 | .aM k _ _ _ _=>[k]
 |_=>[]
mutual
def nu(H:Nat->Option E):V->List Nat
 | .aM k _ _ _ _=>[k]
 | .ref id _=>id::(match H id with
  |some (.cells cs)=>cs.flatMap py
  |_=>[])
 | .agg cs=>l9 H cs
 | .bI cs=>l9 H cs
 | .fn _ cs=>l9 H cs
 | .t _| .aT _| .ca _ _ _ _ _| .cr=>[]
def l9(H:Nat->Option E):List V->List Nat
 | []=>[]
 |v::a=>nu H v++l9 H a
end
section
variable {β:Map}{w:World}{X X1:Nat->Prop}{H:Nat->Option E}
theorem E2{x:T}{u:Value}(r: ∀k e,H k=some e->b4 β w X k e)(n: ∀b,X1 b->X b)(z: ∀k,k∈py v-> ∀b,At β k b-> ¬X1 b)
  (h:rV H v=some (x,c)) (a:bS c) (o:aQ β w X v u):b8 w X1 x u:=by
 cases v with
 |aM k gen A B len=>
  simp only[rV] at h;split at h
  ·rename_i ty i p l q;cases h;obtain⟨rfl,rfl,rfl,rfl,_⟩:=a;exact(r k _ q).read o n (z k (by simp[py]))
  ·rename_i D m i l q;cases h;obtain⟨rfl,rfl,rfl,rfl,_⟩:=a;exact(r k _ q).Wi o n (z k (by simp[py]))
  cases h
 |t y=>
  simp only[rV] at h;cases h;cases o with|t _ _ h=>exact(h.mono (Ext.refl _ _) λb _=>n b).s0
 |agg=>cases h
 |bI=>cases h
 |ref=>cases h
 |aT=>cases h
 |ca=>cases h
 |fn=>cases h
 |cr=>cases h
theorem Et(r: ∀k e,H k=some e->b4 β w X k e)(z: ∀b,X1 b->X b): ∀{a:List V} {dX:List T} {n:List cQ},(∀k,k∈a.flatMap py-> ∀b,At β k b-> ¬X1 b)->uY H a=some (dX,n)->bS n->
  dX.length=a.length/\ ∀(l:Nat->Option Value),(∀(i:Nat) c u,a[i]? =some c->l i=some u->aQ β w X c u)-> ∀(i:Nat) x u,dX[i]? =some x->l i=some u->b8 w X1 x u
 | [],_,_,_,h,_=>by cases h;exact⟨rfl,λ_ _ i x u D=>by simp at D⟩
 |v::a,dX,n,A,h,o=>by
  simp only[uY] at h;split at h
  ·rename_i x F M G L Q;cases h;obtain⟨R,W⟩:=bS.app o;obtain⟨f,t⟩:=Et r z (λk p=>A k (by rw[List.flatMap_cons];exact nH _ p)) Q W;refine⟨by simp[f],λl B i y u q m=>?_⟩;cases i with
   |zero=>
    simp at q;subst q;exact E2 r z (λk p=>A k (by rw[List.flatMap_cons];exact lu _ p)) L R (B 0 v u rfl m)
   |succ i=>
    exact t (λj=>l (j+1)) (λj c u I m=>B (j+1) c u (by simpa using I) m) i y u (by simpa using q) m
  cases h
mutual
theorem Re(G: ∀k e,H k=some e->b4 β w X k e)(B: ∀b,X1 b->X b): ∀(v:V) {r:V} {y:List cQ} {u:Value},(∀k,k∈nu H v-> ∀b,At β k b-> ¬X1 b)->
  ks H v=some (r,y)->bS y->aQ β w X v u->aQ ez w X1 r u
 | .aM k gen M l len,r,y,u,q,h,a,o=>by
  simp only[ks] at h;split at h
  ·rename_i x z A;cases h;exact .t _ _ (E2 G B (λj Q=>q j (by simpa[nu,py] using Q)) A a o)
  cases h
 | .t x,r,y,u,q,h,a,o=>by
  simp only[ks] at h;cases h;cases o with|t _ _ h=>exact .t _ _ (h.mono (Ext.refl _ _) λb _=>B b).s0
 | .aT cs,r,y,u,q,h,a,o=>by
  simp only[ks] at h;cases h;exact o.under (u:=e5) B (λ_ h=>by simp[e5] at h) rfl
 | .ref id l,r,y,u,q,h,a,o=>by
  simp only[ks] at h;split at h
  ·rename_i cs m;split at h
   ·rename_i dX z A;cases h;obtain⟨b,N,rfl⟩:=o7 o;obtain⟨e3,n,ty,P,T,jJ,r1⟩:=G id _ m;rw[N] at P;cases P;obtain⟨R,D⟩:=Et G B (λk F=>q k (by simp only[nu,m];exact dV _ F)) A a;have W:b<w.heap.size:=by
     have:=(gn.1 T).1;exact this
    refine .aT (dX.drop l) b l (λj=>n.getD (l+j) undef) W (q id (by simp[nu]) b (.inl ⟨_,N⟩)) (λj Q=>?_) λj x I=>?_
    ·rw[ir] at Q
     have:l+j<n.size:=O
     simp[World.cell?,T,this]
    rw[fX] at I;have Q:=(bt.1 I).1
    have:l+j<n.size:=O
    have e:n.getD (l+j) undef=n[l+j]:=by simp[this]
    rw[e];exact D (λi=>n[i]?) (λi c u m p=>r1 i c u m p) (l+j) x _ I (by simp[this])
   cases h
  cases h
 | .agg cs,r,y,u,q,h,a,o=>by
  simp only[ks] at h;split at h
  ·rename_i U z A;cases h;cases o with|agg _ n Y L=>
   obtain⟨R,D⟩:=rq G B cs (λk F=>q k (by simpa[nu] using F)) A a;exact .agg _ n O λi c u m p=>D (λi=>n[i]?) (λi c u m p=>L i c u m p) i c u m p
  cases h
 | .bI cs,r,y,u,q,h,a,o=>by
  simp only[ks] at h;split at h
  ·rename_i U z A;cases h;cases o with|bI _ n Y L=>
   obtain⟨R,D⟩:=rq G B cs (λk F=>q k (by simpa[nu] using F)) A a;exact .bI _ n O λi c u m p=>D (λi=>n[i]?) (λi c u m p=>L i c u m p) i c u m p
  cases h
 | .fn f cs,r,y,u,q,h,a,o=>by
  simp only[ks] at h;split at h
  ·rename_i U z A;cases h;cases o with|fn _ _ n Y L=>
   obtain⟨R,D⟩:=rq G B cs (λk F=>q k (by simpa[nu] using F)) A a;exact .fn _ _ n O λi c u m p=>D (λi=>n[i]?) (λi c u m p=>L i c u m p) i c u m p
  cases h
 | .ca _ _ _ _ _,_,_,_,_,h,_,_=>by simp only[ks] at h;cases h
 | .cr,_,_,_,_,h,_,_=>by simp only[ks] at h;cases h
theorem rq(z: ∀k e,H k=some e->b4 β w X k e)(A: ∀b,X1 b->X b): ∀(l:List V) {a:List V} {o:List cQ},(∀k,k∈l9 H l-> ∀b,At β k b-> ¬X1 b)->
  lJ H l=some (a,o)->bS o->a.length=l.length/\ ∀(m:Nat->Option Value),(∀(i:Nat) c u,l[i]? =some c->m i=some u->aQ β w X c u)-> ∀(i:Nat) x u,a[i]? =some x->m i=some u->aQ ez w X1 x u
 | [],_,_,_,h,_=>by simp only[lJ] at h;cases h;exact⟨rfl,λ_ _ i x u F=>by simp at F⟩
 |v::l,a,o,B,h,p=>by
  simp only[lJ] at h;split at h
  ·rename_i x G N L Q R;cases h;obtain⟨W,f⟩:=bS.app p;obtain⟨t,I⟩:=rq z A l (λk q=>B k (by simp only[l9];exact nH _ q)) R f;refine⟨by simp[t],λm D i y u r n=>?_⟩;cases i with
   |zero=>
    simp at r;subst r;exact Re z A v (λk q=>B k (by simp only[l9];exact lu _ q)) Q W (D 0 v u rfl n)
   |succ i=>
    exact I (λj=>m (j+1)) (λj c u M n=>D (j+1) c u (by simpa using M) n) i y u (by simpa using r) n
  cases h
end
theorem QO(r: ∀k e,H k=some e->b4 β w X k e)(v: ∀b,X1 b->X b): ∀{l a:List V} {m:List cQ} {us:List Value},(∀k,k∈l9 H l-> ∀b,At β k b-> ¬X1 b)->
  lJ H l=some (a,m)->bS m->cF β w X l us->cF ez w X1 a us:=fun {l a m us} x h n q=>by obtain⟨y,z⟩:=rq r v l x h n;exact Cy (by rw[y];exact q.eA.1) λi c u o p=>z (λi=>us[i]?) (λi c u o p=>q.eA.2 i c u o p) i c u o p
end
theorem PZ{C:db}(sg:C.P=K.P)(iD:C.G=K.G){c:Operand}{i:Array Operand}{v:Array TypeId}{H:Nat->Option E}{T D:List bV}{U:List cQ}(cy:hK K.nt d=true)(hH: ∀k e,H k=some e->s.H k=some e)
  (F:l=s.get c::i.toList.map s.get) (h:zY C d H l T=some (e,U,D)) (L:bS U):dh K ⟨d,.call {callee:= .value c,args:=i,argTypes:=v},ty,pos,af,g⟩ s (e.app s):=by
 unfold zY at h;split at h
 ·rename_i f m args;split at h
  ·rename_i r T;split at h
   ·rename_i ys XY n R;cases h;rw[lh];obtain⟨tb,⟨x,o⟩,_⟩:=bS.app L;rw[sg] at x o;rw[iD] at o;simp only[List.cons.injEq] at F;obtain⟨Y,h1,h2,h3⟩:=x;intro β a w next Q q W
    have j:Y.name≠ "runtime.NumGoroutine" :=by simpa using h2
    have t:Y.body≠none:=by intro e;simp[e] at h3
    obtain⟨us,I,M⟩:=(F.1.symm▸q.get c).Au;have y:(execOp a.eval ⟨d,.call {callee:= .value c,args:=i,argTypes:=v},ty,pos,af,g⟩).run K.P w= .ok (.enter f (i.map a.eval++us)) w:=by
     simp[execOp,resolve,Deferred.ofValue,I,invoke,callFunc,h1,j,t]
    unfold Oper.wp;rw[y,Oper.upon_enter];have z:cF β w (own K β s.H) (args++m) (i.toList.map a.eval++us.toList):=by rw[F.2];exact(q.k2 i.toList).app M
    let X1:Nat->Prop:=λb=>own K β s.H b/\ ∀k,k∈l9 H (args++m)-> ¬At β k b;have p:=QO (X1:=X1) (λk e N=>(q.heap k e (hH k e N)).2) (λb n=>n.1) (λk W b n hx=>hx.2 k W n) n tb z;have A:=o w X1 _ q.vp (λb n=>q.BB b n.1) p;have N:(List.map a.eval i.toList++us.toList).toArray=i.map a.eval++us:=by rw[<-q7,<-Array.toList_append]
    rw[N] at A;refine A.mono ?_;rintro e w' ⟨u,rfl,B,hu⟩;exact W β _ w' ((q.grow B).put d (fu cy) (D9 R hu))
   cases h
  cases h
 cases h
theorem Q6{C:db}(N:C.P=K.P)(T:C.G=K.G){c:Operand}{D:Array Operand}{q:Array TypeId}{H:Nat->Option E}{t:List cQ}(U:hK K.nt d=true)
  (Y: ∀k e,H k=some e->s.H k=some e) (hu: ∀k,u k=false->s.u k=false)
  (x:l=s.get c::D.toList.map s.get) (h:z' C d l H u W=some (e,t,F)) (Q:bS t):dh K ⟨d,.call {callee:= .value c,args:=D,argTypes:=q},ty,pos,af,g⟩ s (e.app s):=by
 unfold z' at h;split at h
 ·rename_i f z args;split at h
  ·rename_i L a r out W;split at h
   ·rename_i R er fC aG m;cases h;simp only[List.cons.injEq] at x;simp only[Bool.and_eq_true] at m;obtain⟨⟨n,A⟩,b⟩:=m;have b:=b9 b;obtain⟨⟨I,p⟩,_⟩:=Q;rw[N] at I p;rw[T] at p;obtain⟨ay,a2⟩:=rz _ _ fC;obtain⟨i1,i2⟩:=xY _ _ aG;have hx:=Ow (K:=K) (s:=s) (o:=⟨d,.call {callee:= .value c,args:=D,argTypes:=q},ty,pos,af,g⟩) c L a z rfl x.1.symm I (fu U) (by rw[<-x.2,ay];exact jn _) a2 i1
     (λk e i=>by
      obtain⟨id,h1,h2,h4⟩:=i2 k e i;exact⟨id,h1,Y _ _ h2,h4⟩)
     (v6 n) (λid hid=>hu _ (C6 A id hid)) (λ_=>b) p
    have hj:=hx.j;have i:cg.app ⟨et d (r.c6 (L++a)),(L++a).zip (out.map λe=>some (e.c6 (L++a))),(L++a).map λk=>(k,true)⟩ s=(s.after (L++a) out).put d (r.c6 (L++a)):=by
     have e1:cK s.H ((L++a).zip (out.map λe=>some (e.c6 (L++a))))=iH s.H (L++a) (λk=>(out[k]?).map (E.c6 (L++a))):=by
      have:=C7 (L++a) (v6 n) s.H (out.map λe=>some (e.c6 (L++a))) (λk=>(out[k]?).map (E.c6 (L++a))) (by simpa using b) (λk e i=>by
       rw[dU] at i;cases M:out[k]? with
       |none=>rw[M] at i;cases i
       |some y=>rw[M] at i;simp at i;rw[<-i];rfl)
      exact this
     have e2:cK s.u ((L++a).map λk=>(k,true))=iH s.u (L++a) (λ_=>true):=by
      funext id;by_cases B:id∈L++a
      ·obtain⟨k,hk⟩:=ht.1 B;rw[k1 (v6 n) hk];exact C9 B
      rw[kz B,jM _ _ _ λv x=>B (by obtain⟨y,hy,e⟩:=fU.1 x;cases e;exact hy)]
     unfold cg.app S.after;cases d<;>simp only[et,cK,S.put,e1,e2]
    grind
   cases h
  cases h
 cases h
theorem MP{C:db}(q:di K.P C.bQ){H:Nat->Option E}(r: ∀k e,H k=some e->s.H k=some e)
  (y:s.get x=v) (h:y9 C t H v n=some (e,c,b)) (a:bS c):dh K ⟨none,.call {callee:= .builtin .clear,args:= #[x],argTypes:= #[t]},ty,pos,af,g⟩ s (e.app s):=by
 unfold y9 at h;split at h
 ·cases h
 rename_i i z;split at h
 ·rename_i l m;have A:K.P.underlying t=some (.slice l):=(q _ _ z).gm.2.2.2 l m;split at h
  ·cases h
  rename_i j B;obtain⟨Q,D,_⟩:=q _ _ B;split at h
  ·rename_i o;split at h
   ·rename_i F G;cases h;obtain⟨rfl,rfl,p,⟨L,rfl⟩,_⟩:=a;exact Q3 x _ _ _ l _ _ _ y (r _ _ F) A D G o p L
   cases h
  cases h
 cases h
theorem OR{C:db}(z:di K.P C.bQ){A:TypeId}{H:Nat->Option E}{w:V}{B l:List bV}{D:List cQ}(L: ∀k e,H k=some e->s.H k=some e)(Q:hK K.nt d=true)
  (W:s.get x=v) (f:s.get y=w) (h:zj C d t H v w B=some (e,D,l)) (n:bS D):dh K ⟨d,.call {callee:= .builtin .copy,args:= #[x,y],argTypes:= #[t,A]},ty,pos,af,g⟩ s (e.app s):=by
 unfold zj at h;split at h
 ·cases h
 rename_i i u;split at h
 ·rename_i o p;have I:K.P.underlying t=some (.slice o):=(z _ _ u).gm.2.2.2 o p;split at h
  ·cases h
  rename_i j F;obtain⟨mX,M,_⟩:=z _ _ F;split at h
  ·rename_i k gen G q len a R m B N;split at h
   ·rename_i T b r c U Y;cases h;obtain⟨rfl,rfl,rfl,rfl,bH,⟨cc,rfl⟩,_⟩:=n;have F:=Sq (K:=K) (s:=s) (d:=d) (ty:=ty) (pos:=pos) (af:=af) (g:=g) (gen:=b) (size:=j.size) x y k q len o T A c a (fu Q) W (by rw[f,<-N];exact px w) (L _ _ U) I M (by simpa[Nat.blt_eq] using Y) bH cc
    have: ∀v e,cg.app ⟨et d v,[(k,some e)],[]⟩ s=({s with H:=aE s.H k (some e)}:S).put d v:=by intro v e;cases d<;>rfl
    grind
   cases h
  cases h
 cases h
theorem R5{C:db}(q:di K.P C.bQ)(I:C.P=K.P)(T:C.G=K.G)(cj:C.nt=K.nt)(U:C.cB=K.cB){H:Nat->Option E}{R:List cQ}
  (a:l=o.op.operands.toList.map s.get) (B: ∀k e,H k=some e->s.H k=some e) (L: ∀k,u k=false->s.u k=false) (h:An C o l H u M=some (e,R,Q)) (b:bS R):dh K o s (e.app s):=by
 obtain⟨d,W,ty,pos,af,g⟩:=o;unfold An at h;dsimp only at h;split at h
 ·cases h
 rename_i p;rw[cj] at p;have D: ∀{W:Op} {r:gL},l=W.operands.toList.map s.get->(match r6 C.P C.bQ H W l M with|some (v,R,M)=>some ((⟨et d v,[],[]⟩:cg),R,M)|none=>none)=some (e,R,Q)->dh K ⟨d,W,ty,pos,af,g⟩ s (e.app s):=by
  intro W r a h;split at h
  ·rename_i v XX Xy m;cases h;rw[lh];rw[I] at m;exact LZ (vals:=l) (fu p) (eB.of_eq a.symm) ((R4 q m b).sub B)
  cases h
 split at h
 ·split at h
  ·simp only[Op.operands,List.map_cons,List.map_nil,List.cons.injEq,and_true] at a;split at h
   ·exact OV p a.symm h
   exact PY L p a.symm h
  cases h
 ·split at h
  ·rename_i i aG;exact MR q aG L p h
  cases h
 ·split at h
  ·simp only[Op.operands,List.map_cons,List.map_nil,List.cons.injEq,and_true] at a;split at h
   ·rename_i m;cases h;exact M2 q rfl B a.1.symm a.2.symm m b
   exact LK q B a.1.symm a.2.symm h b
  cases h
 ·split at h
  ·simp only[Op.operands,List.map_cons,List.map_nil,List.cons.injEq,and_true] at a;exact OP q L p a.1.symm a.2.symm h b
  cases h
 ·split at h
  ·rename_i m;cases h;exact PR q L p (by simpa[Op.operands] using a) m b
  exact OQ q L p (by simpa[Op.operands] using a) h
 ·rename_i c;obtain⟨N,args,F⟩:=c;dsimp only at h;split at h
  ·rename_i f;split at h
   ·exact Q6 I T p B L (by simpa[Op.operands,Call.operands] using a) h b
   split at h
   ·exact PZ I T p B (by simpa[Op.operands,Call.operands] using a) h b
   exact OU I T p (by simpa[Op.operands,Call.operands] using a) h b
  ·split at h
   ·rename_i x y t Y v w j z;have A:args= #[x,y]:=by rw[<-j]
    have n:F= #[t,Y]:=by rw[<-z]
    subst A;subst n;simp only[Op.operands,Call.operands] at a;simp at a;split at h
    ·rename_i m;cases h;exact LM q U B p a.1.symm a.2.symm m b
    exact Lp q B p a.1.symm a.2.symm h b
   cases h
  ·split at h
   ·rename_i x t v j z;have A:args= #[x]:=by rw[<-j]
    have n:F= #[t]:=by rw[<-z]
    subst A;subst n;simp only[Op.operands,Call.operands] at a;simp at a;exact MP q B a.symm h b
   cases h
  ·split at h
   ·rename_i x y t Y v w j z;have A:args= #[x,y]:=by rw[<-j]
    have n:F= #[t,Y]:=by rw[<-z]
    subst A;subst n;simp only[Op.operands,Call.operands] at a;simp at a;exact OR q B p a.1.symm a.2.symm h b
   cases h
  ·exact D (r:=none) a h
  cases h
 exact D (r:=none) a h
def Vo:V->List Nat
 | .ref id _=>[id]
 | .aM id _ _ _ _=>[id]
 | .ca id _ _ _ _=>[id]
 |_=>[]
def Ac:List V->List Nat
 | []=>[]
 |v::a=>Vo v++Ac a
def Hs:List bV->List Nat
 | .nat k::a=>k::Hs a
 |_=>[]
def Vn:List bV->List Nat
 | .b true::c=>Hs c
 | .nat k::_=>[k]
 | .int _:: .nat k::_=>[k]
 | .ec L a _ _::_=>L++a
 | .lt k _ _::_=>[k]
 |_=>[]
def gi(k:Nat):List Nat->Bool
 | []=>false
 |x::l=>bif Nat.beq x k then true else gi k l
theorem xV{k:Nat}: ∀{l:List Nat},gi k l=true->k∈l
 | [],h=>by cases h
 |x::l,h=>by
  simp only[gi] at h;cases a:Nat.beq x k with
  |true=>rw[b9 a];exact ev
  |false=>rw[a] at h;exact dV _ (xV h)
def pQ(a:List Nat)(H:Nat->Option E):Nat->Option E:=λk=>bif gi k a then H k else none
def pP(a:List Nat)(u:Nat->Bool):Nat->Bool:=λk=>bif gi k a then u k else true
theorem Ni{H:Nat->Option E}{e:E}(h:pQ r H k=some e):H k=some e:=by
 unfold pQ at h
 grind
theorem LR(h:pP r u k=false):u k=false:=by
 unfold pP at h
 grind
def SA:Op->List V->Bool
 | .nilCheck _,[.ca _ _ _ _ _]=>false
 | .move _,_| .assign _,_| .pick _ _ _,_| .nilCheck _,_| .binOp _ _ _ _ _,_| .unOp _ _ _,_| .convert _ _ _,_| .makeFunc _ _ _,_| .extract _ _,_| .field _ _ _,_| .build _ _,_=>true
 | .fieldAddr _ _ _,[.ref _ _]=>true
 |_,_=>false
def S':Op->Bool
 | .load _ _| .slice _ _ _ _ _| .fieldAddr _ _ _| .indexAddr _ _ _| .index _ _ _| .nilCheck _=>true
 | .call c=>match c.callee with
  | .builtin .len=>true
  | .builtin .max=>true
  | .builtin .min=>true
  |_=>false
 |_=>false
def qs(o:Oper)(a:List V)(b:List bV):List Nat:=match SA o.op a with
 |true=>[]
 |false=>match S' o.op with
  |true=>Ac a
  |false=>Ac a++Vn b
def mL(C:db)(o:Oper)(a:List V)(s:S)(b:List bV):gL:=An C o a (pQ (qs o a b) s.H) (pP (qs o a b) s.u) b
def Be:Bool->Bool->Bool
 |true,true=>true
 |false,false=>true
 |_,_=>false
def qk(a:Array Oper)(j:Nat)(s:S):Option V:=match (a[j]?).bind (·.dst) with
 |some t=>some (s.t t)
 |none=>none
def oq(C:db)(h:Array Oper)(o:Oper)(a:List bV)(s:S):gL:=
 match o.guard with
 |none=>mL C o (o.op.operands.toList.map s.get) s a
 |some (j,c)=>match qk h j s with
  |some (.bI [])=>match hK C.nt o.dst with
   |true=>some (⟨et o.dst (.bI []),[],[]⟩,[],a)
   |false=>none
  |some (.t (.bool b))=>match a with
   | .b w::a=>match Be w c with
    |true=>match mL C o (o.op.operands.toList.map s.get) s a with
     |some (e,i,a)=>some (e,.p (b=w)::i,a)
     |none=>none
    |false=>match hK C.nt o.dst with
     |true=>some (⟨et o.dst (.bI []),[],[]⟩,[.p (b=w)],a)
     |false=>none
   |_=>none
  |_=>none
end
structure db.Fits (C:db) (K:Ctx):Prop where
 T:di K.P C.bQ
 P:C.P=K.P
 G:C.G=K.G
 nt:C.nt=K.nt
 cB:C.cB=K.cB
 fZ:C.fZ=K.fZ
section
variable {K:Ctx}{s:S}{C:db}
theorem FF(a:C.Fits K)(h:mL C o (o.op.operands.toList.map s.get) s i=some (e,c,b))(k:bS c):dh K o s (e.app s):=
 R5 a.T a.P a.G a.nt a.cB rfl (λ_ _ h=>Ni h) (λ_ h=>LR h) h k
theorem P5{w v:Bool}(h:Be w v=true):w=v:=by cases w<;>cases v<;>first|rfl|cases h
theorem OI{w v:Bool}(h:Be w v=false):w= !v:=by cases w<;>cases v<;>first|rfl|cases h
theorem Fp{b:Array Oper}{j:Nat}(h:qk b j s=some v): ∃t,(b[j]?).bind (·.dst)=some t/\s.t t=v:=by
 unfold qk at h
 grind
theorem FL(q:C.Fits K){c:Array Oper}{k:List bV}(h:oq C c o k s=some (e,m,i))(a:bS m):f' K c o s (e.app s):=by
 unfold oq at h;split at h
 ·rename_i n;exact f'.of n (FF q h a)
 rename_i j z n;split at h
 ·rename_i l;obtain⟨t,r,v⟩:=Fp l;split at h
  ·rename_i x;cases h;rw[lh];exact f'.skip n r v (fu (q.nt▸x))
  cases h
 ·rename_i b l;obtain⟨t,r,v⟩:=Fp l;split at h
  ·rename_i w k;split at h
   ·rename_i hw;have hw:=P5 hw;subst hw;split at h
    ·rename_i D A B y;cases h;obtain⟨rfl,p⟩:=a;exact f'.er n r v (FF q y p)
    cases h
   rename_i hw;have hw:=OI hw;subst hw;split at h
   ·rename_i x;cases h;obtain⟨rfl,_⟩:=a;rw[lh];exact f'.out n r v (fu (q.nt▸x))
   cases h
  cases h
 cases h
theorem RX{b:Array Oper}{l:List Oper}{c:S}{Q:S->Prop}(h:f' K b o s c)(m:mC K b l c Q):mC K b (o::l) s Q:=
 λβ a w e n p=>h β a w (wpList K.P b e l) e n λi q r k=>m i q r e k p
end
end Go.Lift
