/- Tools. -/
import Derived.Test.YtlklcemjbgpcnaaGreatOLiftTV
namespace Go.Lift
open Go
open Option renaming some -> aa, none -> aj, map_some -> gS
open Bool renaming true -> ab, false -> ak, and_eq_true -> cx
open Go.Result renaming andThen_ok -> fc
open Go.Builtin renaming zeroCells -> ea, append_ -> iX
open List renaming replicate -> dE, map_cons -> hL
open Go.World renaming shape? -> gj
open Go.Sem renaming run_bind -> fo
open Nat renaming beq -> cc, blt -> dw, ble -> dD
section
variable {P:Program}{cD:List (Nat×cu)}{H:Nat->Option E}{d:Option Tmp}{ty:TypeId}{pos:String}{af:Array Edge}{g:Option (Nat×Bool)}
variable {t:TypeId}{u:TypeDesc}{z:Value}{size bytes:Nat}
theorem CI(a:BinOp)(c:Rf a=ab)(x y:Operand)(t e:TypeId)(k:IntKind)(m n:Int):cv P H ⟨d,.binOp a t x y e,ty,pos,af,g⟩ [.t (.int k m),.t (.int k n)] (.t (.int k (bits a k m n))):=by
 intro h w X i _ b;refine⟨Value.int k (bits a k m n),?_,.t _ _ (.int k _)⟩;cases a<;>simp[Rf] at c<;>
  simp[execOp,dS b.1,dS b.2.1,eqGuard,binOp,intBits_and,intBits_or,intBits_xor,intBits_andNot]
theorem agh(x y:Operand)(t b:TypeId)(m n:List UInt8):cv P H ⟨d,.binOp .lss t x y b,ty,pos,af,g⟩ [.t (.str m),.t (.str n)] (.t (.bool (Op.bytesLess m n))):=by intro c w X e _ a;refine⟨.bool (Op.bytesLess m n),?_,.t _ _ (.bool _)⟩;simp[execOp,hQ a.1,hQ a.2.1,eqGuard,binOp,Op.stringOp]
theorem agj(x y:Operand)(t b:TypeId)(m n:List UInt8):cv P H ⟨d,.binOp .gtr t x y b,ty,pos,af,g⟩ [.t (.str m),.t (.str n)] (.t (.bool (!Op.bytesLess m n&& !m==n))):=by intro c w X e _ a;refine⟨.bool (!Op.bytesLess m n&& !m==n),?_,.t _ _ (.bool _)⟩;simp[execOp,hQ a.1,hQ a.2.1,eqGuard,binOp,Op.stringOp]
theorem agi(x y:Operand)(t b:TypeId)(m n:List UInt8):cv P H ⟨d,.binOp .leq t x y b,ty,pos,af,g⟩ [.t (.str m),.t (.str n)] (.t (.bool (Op.bytesLess m n||m==n))):=by intro c w X e _ a;refine⟨.bool (Op.bytesLess m n||m==n),?_,.t _ _ (.bool _)⟩;simp[execOp,hQ a.1,hQ a.2.1,eqGuard,binOp,Op.stringOp]
theorem Vr(x:Operand)(t:TypeId)(k:IntKind)(n:Int):cv P H ⟨d,.unOp .neg t x,ty,pos,af,g⟩ [.t (.int k n)] (.t (.int k (k.wrap (0-n)))):=by intro b w X c _ a;refine⟨.int k (k.wrap (0-n)),?_,.t _ _ (.int _ _)⟩;simp[execOp,dS a.1,Op.unary,Op.intArith]
theorem YS(x:Operand)(f:FuncId)(a:List V):cv P H ⟨d,.nilCheck x,ty,pos,af,g⟩ [.fn f a] (.fn f a):=by intro e w X b _ h;have c:bt e w X (.fn f a) (b x):=h.1;refine⟨b x,?_,c⟩;generalize i:b x=y at c;cases c with|fn=>simp[execOp,i]
variable {a v:V}{x y:Operand}{e k:TypeId}{m c q:List dN}{n:Int}{i b l o W:List cM}{G:Map}{w:World}{X:Nat->Prop}
theorem aek{a:BinOp}{t:TypeId}{k:IntKind}{m:Int}(h:Jk a k m n i=aa (v,c,b))(l:cI c):
  cv P H ⟨d,.binOp a t x y e,ty,pos,af,g⟩ [.t (.int k m),.t (.int k n)] v:=by
 cases a<;>simp only[Jk,Rk,Option.some.injEq,Prod.mk.injEq,reduceCtorEq] at h<;>obtain⟨rfl,rfl,rfl⟩:=h
 ·exact Vd _ _ _ _ _ _ _
 ·exact Vm _ _ _ _ _ _ _
 ·exact U5 _ _ _ _ _ _ _
 ·exact Vo _ _ _ _ _ _ _ l.1
 ·exact Vn _ _ _ _ _ _ _ l.1
 ·exact CI .and rfl _ _ _ _ _ _ _
 ·exact CI .or rfl _ _ _ _ _ _ _
 ·exact CI .xor rfl _ _ _ _ _ _ _
 ·exact CI .andNot rfl _ _ _ _ _ _ _
 ·exact Vb _ _ _ _ _ _ _
 ·exact Vq _ _ _ _ _ _ _
 ·exact U8 _ _ _ _ _ _ _
 ·exact U9 _ _ _ _ _ _ _
 ·exact U' _ _ _ _ _ _ _
 exact Va _ _ _ _ _ _ _
theorem ady{a:BinOp}{t:TypeId}{m n:List UInt8}(h:I8 a m n i=aa (v,c,b))(k:cI c):
  cv P H ⟨d,.binOp a t x y e,ty,pos,af,g⟩ [.t (.str m),.t (.str n)] v:=by
 unfold I8 at h;split at h<;>cases h
 ·obtain⟨l,rfl⟩:=ad' k.1;exact Vc _ _ _ _ _ _ l
 ·exact agl _ _ _ _ _ _
 ·exact agf _ _ _ _ _ _
 ·exact agk _ _ _ _ _ _
 ·exact agh _ _ _ _ _ _
 ·exact agj _ _ _ _ _ _
 exact agi _ _ _ _ _ _
theorem OI(a:eg P cD)(h:Io (dG cD t)=ab):P.underlying t=aa .bool:=by
 unfold Io at h;split at h
 ·rename_i i b;split at h
  ·rename_i c;exact(a _ _ b).iP.1 c
  cases h
 cases h
theorem G9(a:eg P cD)(h:yo (dG cD t)=ab):P.underlying t=aa .string:=by
 unfold yo at h;split at h
 ·rename_i i b;split at h
  ·rename_i c;exact(a _ _ b).iP.2.2.1 c
  cases h
 cases h
theorem B6(a:eg P cD)(h:yv (dG cD t)=ab): ∃e,P.underlying t=aa (.slice e):=by
 unfold yv at h;split at h
 ·rename_i i b;split at h
  ·rename_i e c;exact⟨e,(a _ _ b).iP.2.2.2 e c⟩
  cases h
 cases h
theorem xx{u:Value}(h:bt G w X (.t .gn) u):u= .nilIface:=by cases h with|t _ _ h=>cases h with|gn=>rfl
theorem PG{u:Value}(h:bt G w X (.t .err) u): ∃t v,u= .iface t v:=by cases h with|t _ _ h=>cases h with|err t v=>exact⟨t,v,rfl⟩
theorem WH(w:World)(n:Nat){ms}(a:TypeId)(b:Value)(c:P.underlying t=aa (.interface ms)):(Op.equalIn (n+1) t (.iface a b) .nilIface).run P w= .ok ak w:=by simp[Op.equalIn,run_underlying c]
theorem V'(w:World)(n:Nat){ms}(a:P.underlying t=aa (.interface ms)):(Op.equalIn (n+1) t .nilIface .nilIface).run P w= .ok ab w:=by simp[Op.equalIn,run_underlying a]
theorem Od(w:World){ms}(a:TypeId)(b:Value)(c:P.underlying t=aa (.interface ms)):(Op.equal t (.iface a b) .nilIface).run P w= .ok ak w:=WH w 9999 a b c
theorem Ny(w:World){ms}(a:P.underlying t=aa (.interface ms)):(Op.equal t .nilIface .nilIface).run P w= .ok ab w:=V' w 9999 a
theorem aaR(a b):binOp .eql t (.iface a b) .nilIface=(do pure (.bool (<-Op.equal t (.iface a b) .nilIface))):=rfl
theorem aaQ(a b):binOp .neq t (.iface a b) .nilIface=(do pure (.bool (!(<-Op.equal t (.iface a b) .nilIface)))):=rfl
theorem aaP:binOp .eql t .nilIface .nilIface=(do pure (.bool (<-Op.equal t .nilIface .nilIface))):=rfl
theorem aaO:binOp .neq t .nilIface .nilIface=(do pure (.bool (!(<-Op.equal t .nilIface .nilIface)))):=rfl
theorem Oe(w:World)(o:BinOp)(x y:Operand)(a:(p6 x||p6 y)=ab):(eqGuard o t x y .nilIface .nilIface).run P w= .ok () w:=by cases x<;>cases y<;>simp[p6] at a<;>simp[eqGuard]<;>split<;>simp
theorem af'(x y:Operand)(e:TypeId){ms}(h:P.underlying t=aa (.interface ms)):cv P H ⟨d,.binOp .eql t x y e,ty,pos,af,g⟩ [.t .err,.t .gn] (.t (.bool ak)):=by intro k w X l _ c;obtain⟨a,b,i⟩:=PG c.1;refine⟨.bool ak,?_,.t _ _ (.bool _)⟩;simp[execOp,i,xx c.2.1,eqGuard,aaR,Od w a b h]
theorem af9(x y:Operand)(e:TypeId){ms}(h:P.underlying t=aa (.interface ms)):cv P H ⟨d,.binOp .neq t x y e,ty,pos,af,g⟩ [.t .err,.t .gn] (.t (.bool ab)):=by intro k w X l _ c;obtain⟨a,b,i⟩:=PG c.1;refine⟨.bool ab,?_,.t _ _ (.bool _)⟩;simp[execOp,i,xx c.2.1,eqGuard,aaQ,Od w a b h]
theorem af7(x y:Operand)(b:TypeId){ms}(c:P.underlying t=aa (.interface ms))(e:(p6 x||p6 y)=ab):cv P H ⟨d,.binOp .eql t x y b,ty,pos,af,g⟩ [.t .gn,.t .gn] (.t (.bool ab)):=by intro h w X i _ a;refine⟨.bool ab,?_,.t _ _ (.bool _)⟩;simp[execOp,xx a.1,xx a.2.1,Oe w _ x y e,aaP,Ny w c]
theorem af6(x y:Operand)(b:TypeId){ms}(c:P.underlying t=aa (.interface ms))(e:(p6 x||p6 y)=ab):cv P H ⟨d,.binOp .neq t x y b,ty,pos,af,g⟩ [.t .gn,.t .gn] (.t (.bool ak)):=by intro h w X i _ a;refine⟨.bool ak,?_,.t _ _ (.bool _)⟩;simp[execOp,xx a.1,xx a.2.1,Oe w _ x y e,aaO,Ny w c]
theorem B7{a:List (Nat×cu)}(c:eg P a)(h:I' (dG a t)=ab): ∃ms,P.underlying t=aa (.interface ms):=by
 unfold I' at h;split at h
 ·rename_i i e;split at h
  ·rename_i k;obtain⟨u,l,b⟩:=c _ _ e;simp only[cu.is,k] at b;obtain⟨m,rfl⟩:=b;exact⟨m,l.1⟩
  cases h
 cases h
theorem ael{c:List (Nat×cu)}(q:eg P c){e:BinOp}{b:V}(h:Jl c e t x y a b l=aa (v,m,i)):
  cv P H ⟨d,.binOp e t x y k,ty,pos,af,g⟩ [a,b] v:=by
 unfold Jl at h;split at h
 ·rename_i n p;obtain⟨ms,o⟩:=B7 q n;cases h;exact af' _ _ _ o
 ·rename_i n p;obtain⟨ms,o⟩:=B7 q n;cases h;exact af9 _ _ _ o
 ·rename_i n p;obtain⟨ms,o⟩:=B7 q n;cases h;exact af7 _ _ _ o p
 ·rename_i n p;obtain⟨ms,o⟩:=B7 q n;cases h;exact af6 _ _ _ o p
 cases h
theorem WQ(w:World)(n:Nat){e}(a:Addr)(l c:Nat)(b:P.underlying t=aa (.slice e)):(Op.equalIn (n+1) t (.slice (aa a) l c) (.slice aj 0 0)).run P w= .ok ak w:=by simp[Op.equalIn,run_underlying b]
theorem aet(w:World){e}(a:Addr)(l c:Nat)(b:P.underlying t=aa (.slice e)):(Op.equal t (.slice (aa a) l c) (.slice aj 0 0)).run P w= .ok ak w:=WQ w 9999 a l c b
theorem aec(a:Addr)(l c:Nat):binOp .eql t (.slice (aa a) l c) (.slice aj 0 0)=(do pure (.bool (<-Op.equal t (.slice (aa a) l c) (.slice aj 0 0)))):=rfl
theorem ae6(x y:Operand)(n:TypeId)(i:List (List T)){e}(o:P.underlying t=aa (.slice e))(p:i≠[]):cv P H ⟨d,.binOp .eql t x y n,ty,pos,af,g⟩ [.t (.bE i),.t .fp] (.t (.bool ak)):=by
 intro C w X k _ m;obtain⟨a,l,c,q⟩: ∃a l c,k x= .slice (aa a) l c:=by
  cases m.1 with|t _ _ h=>
  generalize r:k x=u at h;cases h with
  |fW=>exact bs rfl p
  |bE _ b s size A f=>exact⟨_,_,_,rfl⟩
 have B:k y= .slice aj 0 0:=by
  cases m.2.1 with|t _ _ h=>
  generalize r:k y=u at h;cases h;rfl
 refine⟨.bool ak,?_,.t _ _ (.bool _)⟩;simp[execOp,q,B,eqGuard,aec,aet w a l c o]
theorem adz{c:List (Nat×cu)}(p:eg P c){k:BinOp}{l:TypeId}{b:V}{n:List cM}(h:I9 c k t a b n=aa (v,m,i))(o:cI m):
  cv P H ⟨d,.binOp k t x y l,ty,pos,af,g⟩ [a,b] v:=by
 unfold I9 at h;split at h
 ·rename_i q;obtain⟨e,r⟩:=B6 p q;cases h;exact ae6 _ _ _ _ r o.1
 cases h
theorem YV(x y:Operand)(e n c a k:Nat){u:TypeDesc}{z:Value}{i m:Nat}(l:P.underlying t=aa (.array n e))(o:cr P e u z i m)(r:k<n):
  cv P H ⟨d,.indexAddr t x y,ty,pos,af,g⟩ [.ref c a,.t (.int .i64 (k:Int))] (.ref c (a+k*i)):=by
 intro s w X A B h;have cK:=dS h.2.1;obtain⟨b,p,q⟩:=sp h.1;refine⟨.pointer (aa ⟨b,a+k*i,aj⟩),?_,.ref _ _ _ p⟩;simp[execOp,q,cK,Instr.indexAt,asIntOf,run_underlying l,o.run_sizeOf,jA,Instr.sureAddr]
 grind
theorem aer(A:eg P cD){e:BinOp}{t:TypeId}{b:V}(h:Jp P cD e t a b i=aa (v,c,l))(m:cI c):
  cv P H ⟨d,.binOp e t x y k,ty,pos,af,g⟩ [a,b] v:=by
 unfold Jp at h;split at h
 ·split at h
  ·rename_i B;subst B;exact aek h m
  cases h
 ·exact ady h m
 ·split at h
  ·rename_i n;cases h;exact agb _ _ _ _ _ (OI A n)
  ·rename_i n;cases h;exact aga _ _ _ _ _ (OI A n)
  cases h
 ·split at h
  ·rename_i ms o b i p q;cases h;obtain⟨r,s,w,_⟩:=m;rw[Av p,Av q,<-w];exact ab1 _ _ _ _ ms o r a7 (by simp[s])
  ·rename_i ms o b i p q;cases h;obtain⟨r,s,w,_⟩:=m;rw[Av p,Av q,<-w];exact abZ _ _ _ _ ms o r a7 (by simp[s])
  cases h
 cases h
theorem afB{c:UnOp}(h:Ju c a i=aa (v,m,b)):
  cv P H ⟨d,.unOp c t x,ty,pos,af,g⟩ [a] v:=by
 unfold Ju at h;split at h<;>cases h
 ·exact Vp _ _ _
 exact Vr _ _ _ _
theorem Zl(c:eg P cD){i:cu}(k:dG cD t=aa i)(h:HJ cD (aa i)=ab): ∃e,P.underlying t=aa (.slice e)/\P.underlying e=aa (.int .u8):=by
 unfold HJ at h;split at h
 ·rename_i n a;cases a;split at h
  ·rename_i e l;split at h
   ·rename_i j m;split at h
    ·rename_i b;exact⟨e,(c _ _ k).iP.2.2.2 e l,(c _ _ m).iP.2.1 _ b⟩
    cases h
   cases h
  cases h
 cases h
theorem ab9(w:eg P cD){c b:TypeId}{p:List cM}(h:IL cD c b a o=aa (v,q,p))(r:cI q):
  cv P H ⟨d,.convert c b x,ty,pos,af,g⟩ [a] v:=by
 unfold IL at h;split at h
 ·rename_i i j C D;split at h
  ·rename_i G k n m o y;cases h;obtain⟨F,s,_⟩:=w _ _ C;have A:G.wrap n=m:=r.1;rw[<-A];exact QD _ _ _ _ _ F _ s.1 ((w _ _ D).iP.2.1 _ y)
  ·rename_i k n m o y;cases h;have A:UInt8.ofInt n=m:=r.1;rw[<-A];obtain⟨F,s,_⟩:=w _ _ C
   have:=QD (P:=P) (H:=H) (d:=d) (ty:=ty) (pos:=pos) (af:=af) (g:=g) x c b k .u8 F n s.1 ((w _ _ D).iP.2.1 _ y);rw[ae'] at this;exact this
  ·rename_i B l o y;split at h
   ·rename_i K;cases h;have A:B=l.map qn:=r.1;obtain⟨e,L,Q⟩:=Zl w C K;rw[A];exact YX _ _ _ _ _ L Q ((w _ _ D).iP.2.2.1 y)
   cases h
  cases h
 cases h
theorem Yp(x:Operand)(r gen i a:Nat)(s:TypeId)(sz:Nat)(k:List (List T))(e:List T)(L:cr P t u z size bytes)(Q:kU u=ab)(D:H r=aa (.arr s gen sz k))(o:k[i]? =aa e)(V:a+size<=e.length):
  cv P H ⟨d,.load t x,ty,pos,af,g⟩ [.cR r gen sz i a] (.agg (((e.drop a).take size).map .t)):=by
 intro Y w X ρ F R;obtain⟨q,G⟩:=kx (F r _ D);obtain⟨b,y,W⟩:=qg R.1 G;subst y;have a1:=G;rcases(F r _ D).2 with ⟨A,B⟩|⟨hr,C,A,B,h3,f,I⟩
 ·rw[B] at o;simp at o
 rw[a1] at A;cases A;have M:i<k.length:=(b5.1 o).1;have N:e.length=sz:=f e (bT o);have p: ∀j,j<size->i*sz+a+j<C.size:=by
  intro j n
  have:(i+1)*sz<=k.length*sz:=dU _ M;rw[ed] at this;omega
 have l: ∀j,j<size->w.cell? ⟨b,i*sz+a+j,aj⟩=aa (C.getD (i*sz+a+j) undef):=λj n=>by
  have:=p j n;simp[World.cell?,B,this]
 refine⟨_,by simp[execOp,W,Instr.loadAt,Instr.sureAddr,L.Es w Q l];rfl,?_⟩;refine .agg _ _ b6 λj c v h K=>?_;have n:j<size:=by
  have:=(b5.1 h).1;simp at this;omega
 rw[eQ,List.getElem?_take_of_lt n,gq] at h;simp only[List.getElem?_toArray,List.getElem?_map,List.getElem?_range n,gS,Option.some.injEq] at K;cases m:e[a+j]? with
 |none=>rw[m] at h;simp at h
 |some S=>
  rw[m] at h;simp at h;rw[<-h]
  have:=p j n;have U:=I i (a+j) e S C[i*sz+a+j] o m (by rw[<-qu];simp[this]);rw[<-K];simp only[Array.getElem?_eq_getElem this,Option.getD_some];exact .t _ _ U
theorem Oc(F:eg P cD)(h:uR cD H t a b=aa (v,m,l))(s:cI m):
  cv P H ⟨d,.load t x,ty,pos,af,g⟩ [a] v:=by
 unfold uR at h;split at h
 ·cases h
 rename_i i G;obtain⟨K,p,e⟩:=(F _ _ G).agg;split at h
 ·rename_i id A;split at h
  ·rename_i cs q;split at h
   ·rename_i n;split at h
    ·rename_i o;cases h;exact ae7 _ _ _ _ p (e.trans n) q o
    cases h
   rename_i n;split at h
   ·rename_i c B;cases h;exact ae8 _ _ _ _ _ p (e.trans n) q B
   cases h
  cases h
 ·rename_i cs;split at h
  ·rename_i n;split at h
   ·rename_i o;cases h;exact aay _ _ p (e.trans n) (fg o)
   cases h
  rename_i n;split at h
  ·cases h;exact aaz _ _ _ p (e.trans n)
  cases h
 ·rename_i id gen L k A;split at h
  ·rename_i w C y r b q n;split at h
   ·rename_i c B;cases h;obtain⟨rfl,rfl,D,_⟩:=s;exact Yq _ _ _ _ _ _ _ _ _ _ p (e.trans n) q D B
   cases h
  ·rename_i w C y r b q n;split at h
   ·rename_i o;cases h;obtain⟨rfl,rfl,D,_⟩:=s;exact Yp _ _ _ _ _ _ _ _ _ p (e.trans n) q D (fg o)
   cases h
  cases h
 cases h
theorem Nw{j:Nat}: ∀{b:List (Nat×Nat×V)},sN j b=aj-> ∀i v,(i,j,v)∉b
 | [],_,_,_,h=>by cases h
 |h::b,a,i,v,hm=>by
  simp only[sN] at a;cases c:cc h.2.1 j with
  |true=>rw[c] at a;cases a
  |false=>
   rw[c] at a;rcases d'.1 hm with rfl|hm
   ·simp at c
   exact Nw a i v hm
theorem Gh{j:Nat}{x:Nat×V}: ∀{b:List (Nat×Nat×V)},sN j b=aa x->(x.1,j,x.2)∈b
 |h::b,a=>by
  simp only[sN] at a;cases c:cc h.2.1 j with
  |true=>
   rw[c] at a;cases a
   have:=m0 c;subst this;exact ff
  |false=>rw[c] at a;exact eZ _ (Gh a)
theorem xz{S:List (Nat×Nat×V)}{k:Nat}: ∀{n j:Nat} {l:List (Nat×V)},sy S j n=aa l->cI (sR k l)->l.length=n/\ ∀i v,(l.map (·.2))[i]? =aa v->(k,j+i,v)∈S
 |0,_,_,h,_=>by cases h;exact⟨rfl,λi v h=>by simp at h⟩
 |n+1,j,l,h,a=>by
  simp only[sy] at h;split at h
  ·rename_i x o c m;cases h;simp only[sR] at a;obtain⟨e,a⟩:=a;obtain⟨aL,a2⟩:=xz m a;refine⟨by simp[aL],λi v b=>?_⟩;cases i with
   |zero=>
    simp at b;subst b
    have:=Gh c;rw[e] at this;exact this
   |succ i=>
    have:=a2 i v (by simpa using b)
    rwa [show j+1+i=j+(i+1) by omega] at this
  cases h
theorem abl(R:eg P cD){Q:List cM}{N:List dN}(h:H8 cD H t a Q=aa (v,N,W))(n:cI N):
  cv P H ⟨d,.load t x,ty,pos,af,g⟩ [a] v:=by
 unfold H8 at h;split at h
 ·rename_i i id gen S k G r Q K;obtain⟨T,w,e⟩:=(R _ _ K).agg;split at h
  ·rename_i y m A b L B;split at h
   ·rename_i s;split at h
    ·rename_i c C D;split at h
     ·rename_i X;cases h;obtain⟨rfl,o,p,_⟩:=n;exact E9 _ _ _ _ _ y m _ b L r c _ w (e.trans s) B o p C (.inr ⟨λv=>Nw D _ _,X,rfl⟩)
     cases h
    ·rename_i c U Y C D;cases h;obtain⟨rfl,o,p,rfl,_⟩:=n;exact E9 _ _ _ _ _ y m _ b _ r c _ w (e.trans s) B o p C (.inl (Gh D))
    cases h
   rename_i s;split at h
   ·rename_i l f D;cases h;obtain⟨rfl,o,p,F⟩:=n;obtain⟨I,M⟩:=xz D F;exact Mv _ _ _ _ _ y m _ b L r _ w (e.trans s) B o p (fg f) (by simp[I]) M
   cases h
  cases h
 ·rename_i i id gen S k G q r Q K;obtain⟨T,w,e⟩:=(R _ _ K).agg;split at h
  ·rename_i y m A b L B;split at h
   ·rename_i c U ey Y s C F;cases h;obtain⟨rfl,o,p,rfl,rfl,_⟩:=n;exact E9 _ _ _ _ _ y m _ b _ r c _ w (e.trans s) B o p C (.inl (bT F))
   ·rename_i s;split at h
    ·rename_i l f D;cases h;obtain⟨rfl,o,p,F⟩:=n;obtain⟨I,M⟩:=xz D F;exact Mv _ _ _ _ _ y m _ b L r _ w (e.trans s) B o p (fg f) (by simp[I]) λj v bZ=>fN (M j v bZ)
    cases h
   cases h
  cases h
 ·rename_i i id gen S k G q r Q K;obtain⟨T,w,e⟩:=(R _ _ K).agg;split at h
  ·rename_i y m A b L B;split at h
   ·rename_i c s C X;cases h;obtain⟨rfl,o,p,F⟩:=n;exact E9 _ _ _ _ _ y m _ b _ r c _ w (e.trans s) B o p C (.inr ⟨x5 F,X,rfl⟩)
   cases h
  cases h
 cases h
theorem abn(B:eg P cD){k:Nat}(h:HS cD H t k a l=aa (v,c,b))(q:cI c):
  cv P H ⟨d,.fieldAddr t x k,ty,pos,af,g⟩ [a] v:=by
 unfold HS at h;split at h
 ·cases h
 rename_i i F;split at h
 ·rename_i Q G;obtain⟨r,w,y,_⟩:=(B _ _ F).st G;have s:P.underlying t=aa (.struct r):=w.1;split at h
  ·cases h
  rename_i C m;rw[<-y,eQ] at m;cases p:r[k]? with
  |none=>rw[qv,p] at m;cases m
  |some K=>
  rw[qv,p] at m;simp only[gS,Option.some.injEq] at m;subst m;split at h
  ·cases h
  rename_i j L;obtain⟨R,n,_⟩:=B _ _ L;split at h
  ·cases h
  rename_i D;have o:(j.size==0)=ak:=by
   rw[beq_eq_false_iff_ne];intro e;rw[e] at D;cases D
  split at h
  ·cases h;exact YW _ _ _ _ _ _ _ _ _ _ _ s p rfl n o
  ·cases h;exact aaC _ _ _ _ _ _ _ _ _ _ s p rfl n o
  ·split at h
   ·rename_i A;cases h;obtain⟨rfl,rfl,_⟩:=q;exact Ys _ _ _ _ _ _ _ _ _ _ _ _ _ _ s p rfl n o _ _ A
   ·rename_i A;cases h;obtain⟨rfl,_⟩:=q;exact Yt _ _ _ _ _ _ _ _ _ _ _ _ _ _ s p rfl n o _ A rfl
   cases h
  cases h
 cases h
theorem aeo(w:eg P cD){k:Nat}(h:Jn cD t k a l=aa (v,c,b)):
  cv P H ⟨d,.field t x k,ty,pos,af,g⟩ [a] v:=by
 unfold Jn at h;split at h
 ·cases h
 rename_i i A;split at h
 ·rename_i K B;obtain⟨q,m,r,_⟩:=(w _ _ A).st B;split at h
  ·cases h
  rename_i y e;rw[<-r,eQ] at e;cases p:q[k]? with
  |none=>rw[qv,p] at e;cases e
  |some C=>
  rw[qv,p] at e;simp only[gS,Option.some.injEq] at e;subst e;split at h
  ·cases h
  rename_i j D;obtain⟨L,n,o⟩:=(w _ _ D).agg;split at h
  ·split at h
   ·rename_i s;split at h
    ·rename_i F;cases h;exact OQ _ _ _ _ _ _ m p n (.inl ⟨o.trans s,F,rfl⟩)
    cases h
   rename_i s;split at h
   ·rename_i G;cases h;exact OQ _ _ _ _ _ _ m p n (.inr ⟨o.trans s,G⟩)
   cases h
  cases h
 cases h
theorem l7(h:0<=n):n=((n.toNat:Nat):Int):=O
theorem aem(F:eg P cD){b:V}(h:Jm cD H t a b l=aa (v,c,o))(q:cI c):
  cv P H ⟨d,.indexAddr t x y,ty,pos,af,g⟩ [a,b] v:=by
 unfold Jm at h;split at h
 ·cases h
 rename_i i f;split at h
 ·rename_i e G;have B:P.underlying t=aa (.slice e):=(F _ _ f).iP.2.2.2 e G;split at h
  ·cases h
  rename_i j K;obtain⟨I,C,_⟩:=F _ _ K;split at h
  ·rename_i p n;split at h
   ·rename_i r l;split at h
    ·rename_i w;cases h;obtain⟨L,Q⟩:=na (show aD p n=aa r from q.1);rw[l7 L];exact aaB _ _ _ _ _ _ B C Q (m0 w)
    cases h
   cases h
  ·rename_i id gen size A len n;split at h
   ·rename_i s M p R w;cases h;obtain⟨rfl,rfl,⟨L,Q⟩,_⟩:=q;have W:n.toNat<len:=O
    have:=m0 w;subst this;have N:=YU (P:=P) (H:=H) (d:=d) (ty:=ty) (pos:=pos) (af:=af) (g:=g) x y e id s A len n.toNat _ _ R B C W
    grind
   ·rename_i m s p S R w;cases h;obtain⟨rfl,⟨L,Q⟩,_⟩:=q;have W:n.toNat<len:=O
    have:=m0 w;subst this;have N:=Yr (P:=P) (H:=H) (d:=d) (ty:=ty) (pos:=pos) (af:=af) (g:=g) x y e id _ A len n.toNat _ R rfl B C W
    grind
   cases h
  cases h
 ·rename_i m e G;obtain⟨T,X,D⟩:=F _ _ f;have B:P.underlying t=aa (.array m e):=by
   simp only[cu.is,G] at D;rw[<-D];exact X.1
  split at h
  ·cases h
  rename_i j K;obtain⟨I,C,_⟩:=F _ _ K;split at h
  ·rename_i id A n k l;split at h
   ·rename_i w;cases h;rw[show n=(k:Int) from q.1];exact YV _ _ _ _ _ _ _ B C (fg w)
   cases h
  cases h
 cases h
theorem abm(k:eg P cD){b:V}(h:H9 cD t a b o=aa (v,m,i))(e:cI m):
  cv P H ⟨d,.index t x y,ty,pos,af,g⟩ [a,b] v:=by
 unfold H9 at h;split at h
 ·rename_i l n c o p;cases h;obtain⟨q,r⟩:=na (show aD l n=aa c from e.1);rw[l7 q];exact abY _ _ _ _ _ (G9 k p) r
 cases h
theorem aej(n:eg P cD)(h:Jj cD H t a i=aa (v,c,b))(k:cI c):
  cv P H ⟨d,.call {callee:= .builtin .len,args:= #[x],argTypes:= #[t]},ty,pos,af,g⟩ [a] v:=by
 unfold Jj at h;split at h
 ·split at h
  ·rename_i l;cases h;exact abF _ _ (G9 n l)
  cases h
 ·split at h
  ·rename_i l;cases h;obtain⟨e,m⟩:=B6 n l;have p:=k.1;rw[<-p];exact ab0 _ _ _ m
  cases h
 ·split at h
  ·rename_i o l;cases h;obtain⟨rfl,rfl,rfl,_⟩:=k;obtain⟨e,m⟩:=B6 n l;exact abG _ _ _ _ _ _ _ m _ _ o
  ·rename_i o l;cases h;obtain⟨rfl,rfl,_⟩:=k;obtain⟨e,m⟩:=B6 n l;exact aaA _ _ _ _ _ _ _ m _ o rfl
  cases h
 cases h
theorem abk(F:eg P cD){s y:Option Operand}{A:List V}{S:List cM}{mC:List dN}(h:H7 cD H t s y A W=aa (v,mC,S))(n:cI mC):
  cv P H ⟨d,.slice t x s y aj,ty,pos,af,g⟩ A v:=by
 unfold H7 at h;split at h
 ·rename_i l I;split at h
  ·rename_i a b r W T c;cases h;obtain⟨k,U,M,rfl⟩:=Ce n.1;have p:=G9 F T;unfold sO at c;split at c
   ·cases c;rw[l7 k,l7 (O:0<=b)];exact YQ _ _ _ _ _ _ p O O
   ·cases c
    have:=Wb (P:=P) (H:=H) (d:=d) (ty:=ty) (pos:=pos) (af:=af) (g:=g) x ‹_› l a.toNat p O;rw[<-l7 k] at this;simpa using this
   ·cases c
    have:=Wq (P:=P) (H:=H) (d:=d) (ty:=ty) (pos:=pos) (af:=af) (g:=g) x ‹_› l b.toNat p O
    grind
   cases c
  cases h
 ·rename_i B I;split at h
  ·cases h
  rename_i i G;split at h
  ·rename_i e Y;have p:P.underlying t=aa (.slice e):=(F _ _ G).iP.2.2.2 e Y;split at h
   ·rename_i j a b r W K c;cases h;obtain⟨f,C,_⟩:=n;obtain⟨k,U,M,rfl⟩:=Ce f;obtain⟨rA,q,_⟩:=F _ _ K;unfold sO at c;split at c
    ·cases c;rw[l7 k,l7 (O:0<=b)];exact aav _ _ _ _ _ _ _ p q O O C
    ·cases c
     have:=WC (P:=P) (H:=H) (d:=d) (ty:=ty) (pos:=pos) (af:=af) (g:=g) x ‹_› e B a.toNat p q O C;rw[<-l7 k] at this;simpa using this
    ·cases c
     have:=Xb (P:=P) (H:=H) (d:=d) (ty:=ty) (pos:=pos) (af:=af) (g:=g) x ‹_› e B b.toNat p q O C
     grind
    cases c
   cases h
  cases h
 ·rename_i id amm sz L len I;split at h
  ·rename_i i l9 G N;split at h
   ·rename_i e Y;have p:P.underlying t=aa (.slice e):=(F _ _ G).iP.2.2.2 e Y;obtain⟨JG,hH,N⟩:=EU.1 N;have Q: ∀{a b:Int},sO s y len I=aa (a,b)->0<=a->0<=b-> ∀β w X (D:Operand->Value),dx β w X I (s.toList.map D++y.toList.map D)->q4 len s y D a.toNat b.toNat:=by
     intro a b c f k β w X D C;unfold sO at c;split at c
     ·cases c;refine⟨?_,?_⟩
      ·show D _=_;rw[EZ f];exact dS C.1
      show D _=_;rw[EZ k];exact dS C.2.1
     ·cases c;refine⟨?_,by show _=_;simp⟩;show D _=_;rw[EZ f];exact dS C.1
     ·cases c;refine⟨by show _=_;simp,?_⟩;show D _=_;rw[EZ k];exact dS C.1
     cases c
    split at h
    ·rename_i j a b o m W K c;cases h;obtain⟨rfl,rfl,⟨k,U,M,h4,rfl,rfl⟩,_⟩:=n;obtain⟨rA,q,_⟩:=F _ _ K;exact age x s y e id _ L len a.toNat b.toNat JG hH N p q O O O (Q c k O)
    ·rename_i j a b W K c;cases h;obtain⟨rfl,⟨k,rfl,M⟩,_⟩:=n;obtain⟨rA,q,_⟩:=F _ _ K;exact ae5 x s y e id _ _ L len a.toNat JG hH N p q O (Q c k k)
    ·rename_i j a b o m W K c;split at h
     ·rename_i R;cases h;obtain⟨rfl,rfl,rfl,⟨f,k,U,M,rfl,rfl⟩,_⟩:=n;obtain⟨rA,q,_⟩:=F _ _ K;exact ae4 x s y e _ id _ L len a.toNat b.toNat _ R p q f O O (Q c k O)
     cases h
    cases h
   cases h
  cases h
 cases h
theorem Zi(w:eg P cD){k m:Operand}{Y:List V}{n:List cM}(h:Hz cD H t Y n=aa (v,q,l))(o:cI q):
  cv P H ⟨d,.slice t x (aa y) (aa k) (aa m),ty,pos,af,g⟩ Y v:=by
 unfold Hz at h;split at h
 ·rename_i id L Q p len a b c;split at h
  ·rename_i i R r s;split at h
   ·rename_i e A;have B:P.underlying t=aa (.slice e):=(w _ _ r).iP.2.2.2 e A;obtain⟨C,D,s⟩:=EU.1 s;split at h
    ·rename_i j F;cases h;obtain⟨rfl,⟨G,W,X,f⟩,_⟩:=o;obtain⟨I,K,_⟩:=w _ _ F;rw[l7 G,l7 (O:0<=b),l7 (O:0<=c)];exact abX x y k m e id _ _ p len a.toNat b.toNat c.toNat C D s B K O O O
    cases h
   cases h
  cases h
 cases h
theorem ab'(n:eg P cD){c:Operand}{Y:List V}(h:IM cD t Y l=aa (v,m,b))(a:cI m):
  cv P H ⟨d,.slice t x aj (aa c) (aa y),ty,pos,af,g⟩ Y v:=by
 unfold IM at h;split at h
 ·split at h
  ·rename_i i k;split at h
   ·rename_i e o;have p:P.underlying t=aa (.slice e):=(n _ _ k).iP.2.2.2 e o;split at h
    ·rename_i j q;cases h;obtain⟨⟨r,rfl⟩,s,_⟩:=a;obtain⟨B,C,w,rfl⟩:=Ce r;obtain⟨D,A,_⟩:=n _ _ q
     have:=Yn (P:=P) (H:=H) (d:=d) (ty:=ty) (pos:=pos) (af:=af) (g:=g) x c y e _ _ p A (Int.toNat_le.2 w) s
     grind
    cases h
   cases h
  cases h
 cases h
theorem Yu(n:eg P cD){b:Builtin}{a:List TypeId}{c:List Operand}{Y:List V}(h:GV cD H b a c Y l=aa (v,m,i))(e:cI m):
  cv P H ⟨d,.call {callee:= .builtin b,args:=c.toArray,argTypes:=a.toArray},ty,pos,af,g⟩ Y v:=by
 unfold GV at h;split at h
 ·exact aej n h e
 ·split at h
  ·rename_i k;subst k;cases h;exact U7 _ _ _ _ _ _
  cases h
 ·split at h
  ·rename_i k;subst k;cases h;exact U6 _ _ _ _ _ _
  cases h
 cases h
theorem adA(h:Jh H a i=aa (v,c,b))(e:cI c):cv P H ⟨d,.nilCheck x,ty,pos,af,g⟩ [a] v:=by
 unfold Jh at h;split at h
 ·split at h
  ·rename_i n k;cases h;obtain⟨rfl,_⟩:=e;obtain⟨l,m,k⟩:=EU.1 k;exact YT _ _ _ _ _ _ l m k
  cases h
 ·cases h;exact MV _ _ rfl
 ·cases h;exact MV _ _ rfl
 ·cases h;exact YS _ _ _
 cases h
theorem abp(n:eg P cD){a:Array (Nat×Operand)}{Y:List V}(h:HU cD t (a.toList.map (·.1)) Y l=aa (v,c,b)):
  cv P H ⟨d,.build t a,ty,pos,af,g⟩ Y v:=by
 unfold HU at h;split at h
 ·cases h
 rename_i i o;split at h
 ·rename_i w p;split at h
  ·rename_i cs q r s;cases h;obtain⟨e,k,_,m⟩:=(n _ _ o).st p;exact ae9 a e i.places Y cs k m q (by simpa using r) s
  cases h
 cases h
theorem agO(k:eg P cD){a:Op}{Y:List V}(h:yN P cD H a Y l=aa (v,m,i))(e:cI m):
  cv P H ⟨d,a,ty,pos,af,g⟩ Y v:=by
 unfold yN at h;split at h
 ·split at h
  ·cases h;exact af8 _ _
  cases h
 ·split at h
  ·cases h;exact adf _ _
  cases h
 ·split at h
  ·rename_i b v w c l;cases h;obtain⟨q,_⟩:=e;subst q;cases b
   ·exact Yo _ _ _ _ _
   exact YR _ _ _ _ _
  cases h
 ·split at h
  ·split at h
   ·rename_i s;cases h;exact Oc k s e
   exact abl k h e
  cases h
 ·split at h
  ·exact adA h e
  cases h
 ·split at h
  ·split at h
   ·rename_i r o;cases h;exact aer k o e
   split at h
   ·rename_i r o;cases h;exact ael k o
   exact adz k h e
  cases h
 ·split at h
  ·exact afB h
  cases h
 ·split at h
  ·exact ab9 k h e
  cases h
 ·rename_i B first p
  split at h
  ·rename_i f x;cases h
   have:first= #[]:=by simpa using x
   subst this;exact aax _ _ _
  cases h
 ·split at h
  ·exact abk k h e
  split at h
  ·exact Zi k h e
  ·exact ab' k h e
  cases h
 ·split at h
  ·exact abn k h e
  cases h
 ·split at h
  ·exact aeo k h
  cases h
 ·split at h
  ·exact aem k h e
  cases h
 ·split at h
  ·exact abm k h e
  cases h
 ·split at h
  ·split at h
   ·rename_i y;cases h;exact abH _ _ _ _ y
   cases h
  cases h
 ·exact abp k h
 ·rename_i c;obtain⟨n,args,A⟩:=c;dsimp only at h;split at h
  ·have:=Yu (d:=d) (ty:=ty) (pos:=pos) (af:=af) (g:=g) k h e;simpa using this
  cases h
 cases h
end
section
def jw(P:Program)(G:fe)(f:FuncId)(args:List V)(r:V):Prop:=iH P f/\F6 P G f args r
def ig(P:Program)(G:fe)(f:FuncId)(a:List E)(args:List V)(r:V)(b:List E):Prop:=
 iH P f/\LU P G f a args (ι:=Unit) (λ_=>True) (λ_=>r) λ_=>b
def fu(d:Option Tmp)(v:V):List (Nat×V):=match d with
 |some d=>[(d,v)]
 |none=>[]
def ki(a:Nat):Option Tmp->Bool
 |some d=>dw d a
 |none=>ab
theorem hA{K:Ctx}{d:Option Tmp}(h:ki K.nt d=ab): ∀i,d=aa i->dw i K.nt=ab:=by intro i a;subst a;exact h
def jh:T->T
 | .fp=> .bE []
 |x=>x
variable {w:World}{X:Nat->Prop}{m:Nat}
theorem cV.zx{x:T}{v:Value}(h:cV w X x v):cV w X (jh x) v:=by
 cases h with
 |fp=>exact .fW _ _
 |bool b=>exact .bool b
 |int k n=>exact .int k n
 |str l=>exact .str l
 |fW a c=>exact .fW a c
 |bE e b m size c f p q i o r y=>exact .bE e b m size c f p q i o r y
 |gM=>exact .gM
 |gn=>exact .gn
 |mm=>exact .mm
 |err t v=>exact .err t v
theorem aeh{G:Map}{k:Nat}{c:TypeId}{gen n:Nat}{z:List T}(h:cY G w X k (.arr c gen n (dE m z))):cY G w X k (.arr c gen n (dE m (z.map jh))):=by
 refine⟨h.1,?_⟩;rcases h.2 with ⟨q,l⟩|⟨b,r,q,l,A,D,B⟩
 ·have:m=0:=by simpa using l
  grind
 refine .inr ⟨b,r,q,l,by simpa using A,λo a=>?_,λi j o x u a e C=>?_⟩
 ·obtain⟨F,rfl⟩:=xb.1 a
  grind
 rw[ui] at a;split at a
 ·cases a;rw[eQ] at e;cases p:z[j]? with
  |none=>rw[p] at e;simp at e
  |some y=>
   rw[p] at e;simp at e;subst e;exact(B i j z y u (by rw[ui,bb ‹_›]) p C).zx
 cases a
def lT(a:Nat):Nat->List T->List (List T)
 |0,_=>[]
 |n+1,l=>l.take a::lT a n (l.drop a)
theorem Co(a:Nat): ∀(n:Nat) (l:List T),l.length=n*a->(lT a n l).length=n/\(∀b,b∈lT a n l->b.length=a)/\(lT a n l).flatten=l
 |0,l,h=>by
  have:l=[]:=by simpa using h
  subst this;exact⟨rfl,λ_ h=>by simp[lT] at h,rfl⟩
 |n+1,l,h=>by
  rw[ed] at h;obtain⟨c,e,i⟩:=Co a n (l.drop a) b6;refine⟨by simp[lT,c],?_,by simp[lT,i]⟩;intro b b8;simp only[lT,List.mem_cons] at b8;rcases b8 with rfl|b8
  ·simp;omega
  exact e b b8
structure eb where
 P:Program
 G:fe
 cD:List (Nat×cu)
 nt:Nat
 dZ:Nat
 ic:Map
def idxOf(a:Nat):List Nat->Nat->Option Nat
 | [],_=>aj
 |x::r,k=>bif cc x a then aa k else idxOf a r (k+1)
theorem BN{n:Nat}: ∀{L:List Nat} {k m:Nat},idxOf n L k=aa m->k<=m/\L[m-k]? =aa n
 | [],_,_,h=>by cases h
 |x::r,k,m,h=>by
  simp only[idxOf] at h;cases a:cc x n with
  |true=>rw[a] at h;cases h;rw[m0 a];exact⟨da _,a7⟩
  |false=>
   rw[a] at h;obtain⟨c,b⟩:=BN (L:=r) (k:=k+1) h;refine⟨O,?_⟩;rw[show m-k=(m-(k+1))+1 by omega];simpa using b
mutual
def ue(L:List Nat):V->Option V
 | .ref id a=>match idxOf id L 0 with
  |some k=>aa (.ref k a)
  |none=>aj
 | .bo id gen size a len=>match idxOf id L 0 with
  |some k=>aa (.bo k gen size a len)
  |none=>aj
 | .fn f cs=>match ud L cs with
  |some cs=>aa (.fn f cs)
  |none=>aj
 | .cR id gen size i a=>match idxOf id L 0 with
  |some k=>aa (.cR k gen size i a)
  |none=>aj
 | .t x=>aa (.t x)
 | .aS x=>aa (.aS x)
 | .agg cs=>match ud L cs with
  |some cs=>aa (.agg cs)
  |none=>aj
 |_=>aj
def ud(L:List Nat):List V->Option (List V)
 | []=>aa []
 |c::cs=>match ue L c,ud L cs with
  |some c,aa cs=>aa (c::cs)
  |_,_=>aj
end
mutual
theorem agQ{L:List Nat}: ∀(v c:V),ue L v=aa c->c.ek L=v/\c.ok (d6 L.length)=ab
 | .ref id m,c,h=>by
  simp only[ue] at h;split at h
  ·rename_i k n;cases h;obtain⟨_,a⟩:=BN n;simp only[Nat.sub_zero] at a;have b:=(b5.1 a).1;exact⟨by simp[V.ek,List.getD_eq_getElem?_getD,a],jx.2 b⟩
  cases h
 | .bo id gen size m len,c,h=>by
  simp only[ue] at h;split at h
  ·rename_i k n;cases h;obtain⟨_,a⟩:=BN n;simp only[Nat.sub_zero] at a;have b:=(b5.1 a).1;exact⟨by simp[V.ek,List.getD_eq_getElem?_getD,a],jx.2 b⟩
  cases h
 | .cR id gen size i m,c,h=>by
  simp only[ue] at h;split at h
  ·rename_i k n;cases h;obtain⟨_,a⟩:=BN n;simp only[Nat.sub_zero] at a;have b:=(b5.1 a).1;exact⟨by simp[V.ek,List.getD_eq_getElem?_getD,a],jx.2 b⟩
  cases h
 | .fn f cs,c,h=>by
  simp only[ue] at h;split at h
  ·rename_i e l;cases h;obtain⟨o,a⟩:=yh cs e l;exact⟨by simp[V.ek,o],by simpa[V.ok] using a⟩
  cases h
 | .agg cs,c,h=>by
  simp only[ue] at h;split at h
  ·rename_i e l;cases h;obtain⟨o,a⟩:=yh cs e l;exact⟨by simp[V.ek,o],by simpa[V.ok] using a⟩
  cases h
 | .t x,c,h=>by cases h;exact⟨rfl,rfl⟩
 | .aS x,c,h=>by cases h;exact⟨rfl,rfl⟩
 | .bX _,_,h| .dp,_,h=>by cases h
theorem yh{L:List Nat}: ∀(cs a:List V),ud L cs=aa a->jg L a=cs/\gL (d6 L.length) a=ab
 | [],_,h=>by cases h;exact⟨rfl,rfl⟩
 |c::cs,a,h=>by
  simp only[ud] at h;split at h
  ·rename_i e b i k;cases h;obtain⟨aL,a2⟩:=agQ c e i;obtain⟨l,m⟩:=yh cs b k;exact⟨by simp[jg,aL,l],by simp[gL,a2,m]⟩
  cases h
end
def vo(L:List Nat)(H:Nat->Option E):List Nat->Option (List E)
 | []=>aa []
 |id::b=>match H id with
  |some (.cells cs)=>match ud L cs,vo L H b with
   |some cs,aa c=>aa (.cells cs::c)
   |_,_=>aj
  |some (.arr ty gen size a)=>match vo L H b with
   |some c=>aa (.arr ty gen size a::c)
   |none=>aj
  |some (.aN e m gen a [])=>match vo L H b with
   |some c=>aa (.aN e m gen a []::c)
   |none=>aj
  |some (.aN _ _ _ _ (_::_))=>aj
  |none=>aj
theorem BM{L:List Nat}{H:Nat->Option E}: ∀(a:List Nat) (ft:List E),vo L H a=aa ft->ft.length=a.length/\ ∀(k:Nat) (e:E),ft[k]? =aa e-> ∃id,a[k]? =aa id/\H id=aa (e.ek L)/\e.ok (d6 L.length)=ab
 | [],_,h=>by cases h;exact⟨rfl,λk e h=>by simp at h⟩
 |id::a,ft,h=>by
  simp only[vo] at h;split at h
  ·rename_i cs hid;split at h
   ·rename_i q i r l;cases h;obtain⟨aL,a2⟩:=BM a i l;obtain⟨w,x⟩:=yh cs q r;refine⟨by simp[aL],λk e b=>?_⟩;cases k with
    |zero=>simp at b;subst b;exact⟨id,rfl,by rw[hid];simp only[E.ek,w],x⟩
    |succ k=>simp at b;obtain⟨c,n,o⟩:=a2 k e b;exact⟨c,by simpa using n,o⟩
   cases h
  ·rename_i ty gen size p hid;split at h
   ·rename_i i l;cases h;obtain⟨aL,a2⟩:=BM a i l;refine⟨by simp[aL],λk e b=>?_⟩;cases k with
    |zero=>simp at b;subst b;exact⟨id,rfl,hid,rfl⟩
    |succ k=>simp at b;obtain⟨c,n,o⟩:=a2 k e b;exact⟨c,by simpa using n,o⟩
   cases h
  ·rename_i y m gen p hid;split at h
   ·rename_i i l;cases h;obtain⟨aL,a2⟩:=BM a i l;refine⟨by simp[aL],λk e b=>?_⟩;cases k with
    |zero=>simp at b;subst b;exact⟨id,rfl,hid,rfl⟩
    |succ k=>simp at b;obtain⟨c,n,o⟩:=a2 k e b;exact⟨c,by simpa using n,o⟩
   cases h
  ·cases h
  cases h
def CM(a:Nat):List Nat->Bool
 | []=>ab
 |x::l=>bif cc x a then ak else CM a l
theorem N'{n:Nat}: ∀{l:List Nat},CM n l=ab->n∉l
 | [],_,h=>by cases h
 |x::l,h,hm=>by
  simp only[CM] at h;cases a:cc x n with
  |true=>rw[a] at h;cases h
  |false=>
   rw[a] at h;rcases d'.1 hm with rfl|hm
   ·simp at a
   exact N' h hm
def CU:List Nat->Bool
 | []=>ab
 |x::l=>CM x l&&CU l
theorem Bq: ∀{l:List Nat},CU l=ab->l.Nodup
 | [],_=>List.nodup_nil
 |x::l,h=>by simp only[CU,cx] at h;exact List.nodup_cons.2 ⟨N' h.1,Bq h.2⟩
def Ci(u:Nat->Bool):List Nat->Bool
 | []=>ab
 |x::l=> !u x&&Ci u l
theorem M1{u:Nat->Bool}: ∀{l:List Nat},Ci u l=ab-> ∀id,id∈l->u id=ak
 | [],_,_,h=>by cases h
 |x::l,h,id,hm=>by
  simp only[Ci,cx,Bool.not_eq_true'] at h;rcases d'.1 hm with rfl|hm
  ·exact h.1
  exact M1 h.2 id hm
theorem Nj{u:Nat->Bool}{n:Nat}: ∀{l:List Nat},n∈l->dA u (l.map λk=>(k,ab)) n=ab
 |x::l,h=>by
  simp only[hL,dA];by_cases a:n∈l
  ·rw[Cx _ _ u _ ⟨ab,eK.2 ⟨n,a,rfl⟩⟩];exact Nj a
  rcases d'.1 h with rfl|h
  ·rw[mW _ _ _ (λv b=>a (by obtain⟨y,c,e⟩:=eK.1 b;cases e;exact c)),cd]
  exact bs h a
theorem MU{a:Type}: ∀(L:List Nat),L.Nodup-> ∀(f:Nat->a) (b:List a) (g:Nat->a),b.length=L.length->(∀(k:Nat) x,b[k]? =aa x->g k=x)->dA f (L.zip b)=lJ f L g
 | [],_,f,b,g,_,_=>by simp[dA,lJ]
 |l::L,c,f,[],g,h,_=>by simp at h
 |l::L,c,f,x::b,g,h,n=>by
  simp only[List.nodup_cons] at c;simp only[List.zip_cons_cons,dA,lJ];rw[MU L c.2 (aZ f l x) b (λk=>g (k+1)) (by simpa using h) (λk y p=>n (k+1) y (by simpa using p)),n 0 x rfl];funext i;by_cases e:i=l
  ·subst e;rw[nX c.1,cd,cd]
  rw[cg _ _ _ _ e];by_cases m:i∈L
  ·obtain⟨k,o⟩:=j1.1 m;rw[o5 c.2 o,o5 c.2 o]
  rw[nX m,nX m,cg _ _ _ _ e]
abbrev jv:=Option (df×List dN×List cM)
def ve(d:Option Tmp)(u:Nat->Bool)(v:V)(a:List cM):jv:=
 match a with
 | .nat k::a=>match u k,v.val with
  |false,ab=>aa (⟨fu d (.ref k 0),[(k,aa (.cells v.cs))],[(k,ab)]⟩,[],a)
  |_,_=>aj
 |_=>aj
def IQ(d:Option Tmp)(v:V)(a:List cM):jv:=
 match a with
 | .b ab::a=>match (oc v).val,lX (oc v).cs with
  |true,aa c=>aa (⟨fu d (.aS c),[],[]⟩,[],a)
  |_,_=>aj
 |_=>aj
def S5:List cM->Bool
 | .b ab::_=>ab
 |_=>ak
def H6(C:eb)(t:TypeId)(H:Nat->Option E)(a v:V)(n:List cM):jv:=
 match dG C.cD t with
 |none=>aj
 |some i=>match a with
  | .ref id b=>match H id with
   |some (.cells cs)=>match v.val,oz v.cs,cc v.cs.length i.size,dD (b+i.size) cs.length with
    |true,ab,ab,ab=>aa (⟨[],[(id,aa (.cells (ng cs b v.cs)))],[]⟩,[],n)
    |_,_,_,_=>aj
   |_=>aj
  | .cR id gen w k b=>match H id,lX (oc v).cs,n with
   |some (.arr e h m l),aa o,.row r:: .rows c::n=>match (oc v).val,cc o.length i.size,dD (b+i.size) w with
    |true,ab,ab=>aa (⟨[],[(id,aa (.arr e h m c))],[]⟩,
      [.q h gen,.q m w,.p (l[k]? =aa r),.p (c=l.set k (r.take b++o++r.drop (b+o.length)))],n)
    |_,_,_=>aj
   |_,_,_=>aj
  |_=>aj
def u3(k a n:Nat):List (Nat×Nat×V)->List dN
 | []=>[]
 |h::b=>bif dD a h.2.1&&dw h.2.1 (a+n) then .q h.1 k::u3 k a n b else u3 k a n b
def u4(k a n:Nat):List (Nat×Nat×V)->List dN
 | []=>[]
 |h::b=>bif dD a h.2.1&&dw h.2.1 (a+n) then .p (h.1≠k)::u4 k a n b else u4 k a n b
def Hy(C:eb)(t:TypeId)(H:Nat->Option E)(a v:V)(o:List cM):jv:=
 match dG C.cD t,a,o with
 |some i,.cR id gen x k b,.row r::o=>match H id with
  |some (.aN w m c e h)=>match v.val&&(oz v.cs&&(cc v.cs.length i.size&&(dD (b+i.size) r.length&&dw 0 i.size))),sy h b i.size with
   |true,aa l=>aa (⟨[],[(id,aa (.aN w m c e (u5 b v.cs h)))],[]⟩,.q c gen:: .q (aR w m).size x:: .p (e[k]? =aa r)::(sR k l++u3 k b i.size h),o)
   |_,_=>aj
  |_=>aj
 |some i,.cR id gen x k b,.int q:: .nat n:: .row r::o=>match H id with
  |some (.aN w m c e h)=>match v.val&&(oz v.cs&&(cc v.cs.length i.size&&(dD (b+i.size) r.length&&dw 0 i.size))),sy ((h.drop q.toNat).take n) b i.size with
   |true,aa l=>aa (⟨[],[(id,aa (.aN w m c e (h.take q.toNat++(u5 b v.cs ((h.drop q.toNat).take n)++(h.drop q.toNat).drop n))))],[]⟩,
     .q c gen:: .q (aR w m).size x:: .p (e[k]? =aa r)::(sR k l++(u3 k b i.size ((h.drop q.toNat).take n)++(u4 k b i.size (h.take q.toNat)++u4 k b i.size ((h.drop q.toNat).drop n)))),o)
   |_,_=>aj
  |_=>aj
 |_,_,_=>aj
def yn(z:List T):List (Nat×Nat)->Bool
 | []=>ab
 |p::l=>(match z[p.1]? with|some .fp=>ab|_=>ak)&&yn z l
def IH(C:eb)(d:Option Tmp)(t:TypeId)(u:Nat->Bool)(v w:V)(b:List cM):jv:=
 match dG C.cD t with
 |none=>aj
 |some i=>match i.u with
  | .slice e=>match dG C.cD e with
   |none=>aj
   |some j=>match v,w,b,lX (hz j.z).cs with
    | .t (.int .i64 n),.t (.int .i64 m),.nat k:: .rows R::b,aa a=>match u k,(hz j.z).val,cc a.length j.size,dw 0 j.size&&dD j.bytes 200000 with
     |false,ab,ab,ab=>aa (⟨fu d (.bo k 1 j.size 0 R.length),[(k,aa (.arr e 1 j.size R))],[(k,ab)]⟩,[.q n.toNat m.toNat,.p (mk n (a.map jh)=aa R),.p (0<=m)],b)
     |_,_,_,_=>aj
    | .t (.int .i64 n),.t (.int .i64 m),.nat k:: .dq _ c q:: .rows R::b,aa a=>match u k,(hz j.z).val&&yn a (aR c q).bm,cc a.length j.size,dw 0 j.size&&dD j.bytes 200000 with
     |false,ab,ab,ab=>aa (⟨fu d (.bo k 1 j.size 0 R.length),[(k,aa (.aN c q 1 R []))],[(k,ab)]⟩,[.q (aR c q).ty e,.q (aR c q).size j.size,.q n.toNat m.toNat,.p (mk n (a.map jh)=aa R),.p (0<=m)],b)
     |_,_,_,_=>aj
    |_,_,_,_=>aj
  |_=>aj
def HB(C:eb)(d:Option Tmp)(t o:TypeId)(H:Nat->Option E)(v w:V)(l:List cM):jv:=
 match dG C.cD t with
 |none=>aj
 |some i=>match i.u with
  | .slice e=>match dG C.cD e with
   |none=>aj
   |some j=>match v,oc w,l with
    | .bo k gen size m len,.t (.bE h),.rows R::l=>match H k with
     |some (.arr n a b c)=>match cc m 0,cc j.z.cells.size j.size&&(dw 0 j.size&&dD j.bytes 140000),cc n e&&cc o t with
      |true,ab,ab=>aa (⟨fu d (.bo k (a+1) size 0 R.length),[(k,aa (.arr n (a+1) b R))],[]⟩,
        [.q a gen,.q b size,.q size j.size,.q len c.length,.p (app c h=aa R),.p (Rows j.size c),.p (Rows j.size h)],l)
      |_,_,_=>aj
     |_=>aj
    |_,_,_=>aj
  |_=>aj
def GW(C:eb)(d:Option Tmp)(t y:TypeId)(H:Nat->Option E)(v w:V)(o:List cM):jv:=
 match dG C.cD t with
 |none=>aj
 |some i=>match i.u with
  | .slice e=>match dG C.cD e with
   |none=>aj
   |some j=>match v,w,o with
    | .bo k gen size l len,.bo ez F G A r,.rows R::o=>match H k,H ez with
     |some (.aN x m b a []),aa (.aN B W D (L::h) n)=>match cc l 0&&cc A 0,cc j.z.cells.size j.size&&(dw 0 j.size&&dD j.bytes 140000),cc y t&&(uM (aR x m) (h.length+1) n&&uU n) with
      |true,ab,ab=>aa (⟨fu d (.bo k (b+1) size 0 R.length),[(k,aa (.aN x m (b+1) R (ix a.length n)))],[]⟩,
        [.q b gen,.q D F,.q G size,.q size j.size,.q (aR x m).size size,.q (aR x m).ty e,.q r (h.length+1),.q len a.length,.p (aR B W=aR x m),.p (app a (L::h)=aa R),.p (Rows j.size a),.p (Rows j.size (L::h))],o)
      |_,_,_=>aj
     |some (.arr Q b c a),aa _=>match cc ez k&&cc l 0,cc Q e&&(cc y t&&dw 0 j.size) with
      |true,ab=>aa (⟨fu d (.bo k gen size 0 (len+r)),[(k,aa (.arr Q b c R))],[]⟩,
        [.q b gen,.q F gen,.q c size,.q G size,.q j.size size,.p (len+r<=a.length),.p (A+r<=a.length),.p (R=a.take len++(a.drop A).take r++a.drop (len+r))],o)
      |_,_=>aj
     |_,_=>aj
    | .bo k gen size l len,.t (.bE []),.int 0::o=>match H k with
     |some (.arr _ b c _)=>match cc l 0&&dw 0 j.size,cc y t with
      |true,ab=>aa (⟨fu d (.bo k gen size 0 len),[],[]⟩,[.q b gen,.q c size,.q j.size size],o)
      |_,_=>aj
     |_=>aj
    |_,_,_=>aj
  |_=>aj
def xJ(d:dM):Nat->List V->Option (List T×List (Nat×Nat×V))
 |_,[]=>aa ([],[])
 |j,v::b=>match xJ d (j+1) b with
  |none=>aj
  |some (r,a)=>match d.ej j with
   |some _=>bif v.one then aa (.bE []::r,(0,j,v)::a) else aj
   |none=>match z7 v with
    |some x=>aa (x::r,a)
    |none=>aj
def qV:Nat->List V->List (Nat×Nat×V)
 |_,[]=>[]
 |i,v::vs=>(i,0,v)::qV (i+1) vs
def II(C:eb)(d:Option Tmp)(t:TypeId)(n:Nat)(h:List Nat)(u:Nat->Bool)(a:List V)(c:List cM):jv:=
 match dG C.cD t with
 |none=>aj
 |some i=>match i.u with
  | .slice e=>match dG C.cD e with
   |none=>aj
   |some j=>match n,c with
    |1,.lt k b m::c=>match lg (λi=>aa (i*j.size,j.size)) (dE (1*j.size) .dp) (h.zip (vq ((aR b m).ej 0) a)) with
     |none=>aj
     |some cs=>match xJ (aR b m) 0 cs with
      |none=>aj
      |some (r,l)=>match u k,cc cs.length j.size&&cc (aR b m).size j.size,cc h.length a.length&&cc (aR b m).ty e,dD (1*j.size) 16777216,dw 0 j.size with
       |false,ab,ab,ab,ab=>aa (⟨fu d (.bo k 1 j.size 0 1),[(k,aa (.aN b m 1 [r] l))],[(k,ab)]⟩,[],c)
       |_,_,_,_,_=>aj
    |n,.lt k b m::c=>match lg (λi=>aa (i*j.size,j.size)) (dE (n*j.size) .dp) (h.zip (hD a)) with
     |none=>aj
     |some cs=>match u k,cc j.size 1&&(cc cs.length n&&oz cs),cc h.length a.length&&(cc (aR b m).ty e&&cc (aR b m).size 1),dD (n*j.size) 16777216,dw 0 n with
      |false,ab,ab,ab,ab=>aa (⟨fu d (.bo k 1 1 0 n),[(k,aa (.aN b m 1 (dE n [.bE []]) (qV 0 cs)))],[(k,ab)]⟩,[],c)
      |_,_,_,_,_=>aj
    |_,_=>aj
  |_=>aj
def Ji(C:eb)(d:Option Tmp)(t:TypeId)(n:Nat)(b:List Nat)(u:Nat->Bool)(a:List V)(c:List cM):jv:=
 match dG C.cD t with
 |none=>aj
 |some i=>match i.u with
  | .slice e=>match dG C.cD e with
   |none=>aj
   |some j=>match n,b,c with
    |0,[],.nat k::c=>match u k with
     |false=>aa (⟨fu d (.bo k 1 j.size 0 0),[(k,aa (.arr e 1 j.size []))],[(k,ab)]⟩,[],c)
     |true=>aj
    |n,b,.int 1:: .nat k::c=>match lg (λi=>aa (i*j.size,j.size)) (dE (n*j.size) .dp) (b.zip (hD a)) with
     |none=>aj
     |some cs=>match lX cs with
      |none=>aj
      |some h=>match u k,cc h.length (n*j.size),cc b.length a.length,dD (n*j.size) 16777216,dw 0 j.size with
       |false,ab,ab,ab,ab=>aa (⟨fu d (.bo k 1 j.size 0 (lT j.size n h).length),[(k,aa (.arr e 1 j.size (lT j.size n h)))],[(k,ab)]⟩,[],c)
       |_,_,_,_,_=>aj
    |n,b,.int 2:: .rows R::c=>match lg (λi=>aa (i*j.size,j.size)) (dE (n*j.size) .dp) (b.zip (hD a)) with
     |none=>aj
     |some cs=>match lX cs with
      |none=>aj
      |some h=>match cc h.length (n*j.size),cc b.length a.length,dD (n*j.size) 16777216 with
       |true,ab,ab=>aa (⟨fu d (.t (.bE R)),[],[]⟩,[.p (lT j.size n h=R)],c)
       |_,_,_=>aj
    |n,b,.int 0::c=>match lg (λi=>aa (i*j.size,j.size)) (dE (n*j.size) .dp) (b.zip (hD a)) with
     |none=>aj
     |some cs=>match lX cs with
      |none=>aj
      |some h=>match cc h.length (n*j.size),cc b.length a.length,dD (n*j.size) 16777216 with
       |true,ab,ab=>aa (⟨fu d (.t (.bE (lT j.size n h))),[],[]⟩,[],c)
       |_,_,_=>aj
    |_,_,_=>aj
  |_=>aj
mutual
def sU:V->Bool
 | .t (.int _ _)| .t (.bool _)| .t (.str _)=>ab
 | .agg cs=>vd cs
 | .bX cs=>vd cs
 |_=>ak
def vd:List V->Bool
 | []=>ab
 |c::cs=>sU c&&vd cs
end
def yF(H:Nat->Option E):V->Option (T×List dN)
 | .bo k gen size e len=>match H k with
  |some (.arr _ b c a)=>aa (.bE a,[.q gen b,.q size c,.q e 0,.q len a.length])
  |some (.aN h m b a [])=>aa (.bE a,[.q gen b,.q size (aR h m).size,.q e 0,.q len a.length])
  |_=>aj
 | .t x=>aa (jh x,[])
 |_=>aj
def Db(H:Nat->Option E):List V->Option (List T×List dN)
 | []=>aa ([],[])
 |v::a=>match yF H v,Db H a with
  |some (x,b),aa (c,e)=>aa (x::c,b++e)
  |_,_=>aj
mutual
def nI(H:Nat->Option E):V->Option (V×List dN)
 | .bo k gen size b len=>match yF H (.bo k gen size b len) with
  |some (x,a)=>aa (.t x,a)
  |none=>aj
 | .t x=>aa (.t (jh x),[])
 | .aS cs=>aa (.aS cs,[])
 | .ref id b=>match H id with
  |some (.cells cs)=>match Db H cs with
   |some (e9,a)=>aa (.aS (e9.drop b),a)
   |none=>aj
  |_=>aj
 | .agg cs=>match pQ H cs with
  |some (c,a)=>aa (.agg c,a)
  |none=>aj
 | .bX cs=>match pQ H cs with
  |some (c,a)=>aa (.bX c,a)
  |none=>aj
 | .fn f cs=>match pQ H cs with
  |some (c,a)=>aa (.fn f c,a)
  |none=>aj
 | .cR _ _ _ _ _=>aj
 | .dp=>aj
def pQ(H:Nat->Option E):List V->Option (List V×List dN)
 | []=>aa ([],[])
 |v::a=>match nI H v,pQ H a with
  |some (x,b),aa (c,e)=>aa (x::c,b++e)
  |_,_=>aj
end
def Rl:List cM->List cM
 | .nat _::hs=>Rl hs
 |hs=>hs
def Jo(C:eb)(d:Option Tmp)(H:Nat->Option E)(a:List V)(c:List cM):jv:=
 match a with
 | .fn f b::args=>match Rl (c.drop 1) with
  | .v r::c=>match pQ H (args++b),sU r with
   |some (e,h),ab=>aa (⟨fu d r,[],[]⟩,h++[.p (jw C.P C.G f e r)],c)
   |_,_=>aj
  |_=>aj
 |_=>aj
def IP(C:eb)(d:Option Tmp)(b:List V)(c:List cM):jv:=
 match b with
 | .fn f a::args=>match c with
  | .v r::c=>match gL gK (hD (args++a)) with
   |true=>aa (⟨fu d r,[],[]⟩,[.p (jw C.P C.G f (hD (args++a)) r)],c)
   |false=>aj
  | .nat _:: .v r::c=>aa (⟨fu d r,[],[]⟩,[.p (gL gK (hD (args++a))=ab),.p (jw C.P C.G f (hD (args++a)) r)],c)
  |_=>aj
 |_=>aj
def Jt(C:eb)(d:Option Tmp)(c:List V)(H:Nat->Option E)(u:Nat->Bool)(i:List cM):jv:=
 match c with
 | .fn f h::args=>match i with
  | .dL L a r out::i=>match ud L (hD (args++h)),vo L H L,CU (L++a)&&Ci u a&&cc out.length (L++a).length with
   |some b,aa ft,ab=>aa (⟨fu d (r.ek (L++a)),(L++a).zip (out.map λe=>aa (e.ek (L++a))),(L++a).map λk=>(k,ab)⟩,[.p (ig C.P C.G f ft b r out)],i)
   |_,_,_=>aj
  |_=>aj
 |_=>aj
def HT(C:eb)(t:TypeId)(H:Nat->Option E)(v:V)(l:List cM):jv:=
 match dG C.cD t with
 |none=>aj
 |some i=>match i.u with
  | .slice e=>match dG C.cD e with
   |none=>aj
   |some j=>match v,l,lX (hz j.z).cs with
    | .bo k gen size h len,.rows R::l,aa m=>match H k,(hz j.z).val with
     |some (.arr n c a b),ab=>aa (⟨[],[(k,aa (.arr n c a R))],[]⟩,[.q c gen,.q a size,.q m.length size,.p (h+len<=b.length/\R=b.take h++dE len (m.map jh)++b.drop (h+len))],l)
     |_,_=>aj
    |_,_,_=>aj
  |_=>aj
def IK(C:eb)(d:Option Tmp)(t:TypeId)(H:Nat->Option E)(v w:V)(n:List cM):jv:=
 match dG C.cD t with
 |none=>aj
 |some i=>match i.u with
  | .slice e=>match dG C.cD e with
   |none=>aj
   |some j=>match v,oc w,n with
    | .bo k gen size l len,.t (.bE a),.rows R:: .nat m::n=>match H k,dw 0 j.size with
     |some (.arr o h b c),ab=>aa (⟨fu d (.t (.int .i64 m)),[(k,aa (.arr o h b R))],[]⟩,
       [.q h gen,.q b size,.q size j.size,.q m (Nat.min a.length len),.p (Rows j.size a),.p (l+len<=c.length/\R=c.take l++a.take m++c.drop (l+m))],n)
     |_,_=>aj
    |_,_,_=>aj
  |_=>aj
def VG:List cM->Bool
 | .dL _ _ _ _::_=>ab
 |_=>ak
def JH(C:eb)(o:Oper)(b:List V)(H:Nat->Option E)(u:Nat->Bool)(e:List cM):jv:=
 match ki C.nt o.dst with
 |false=>aj
 |true=>match o.op with
  | .box _ _=>match b with
   | [v]=>match S5 e with
    |true=>IQ o.dst v e
    |false=>ve o.dst u v e
   |_=>aj
  | .alloc t=>match dG C.cD t with
   |some i=>ve o.dst u (hz i.z) e
   |none=>aj
  | .store t _ _=>match o.dst,b with
   |none,[a,v]=>match H6 C t H a v e with
    |some r=>aa r
    |none=>Hy C t H a v e
   |_,_=>aj
  | .makeSlice t _ _=>match b with
   | [v,w]=>IH C o.dst t u v w e
   |_=>aj
  | .buildSlice t n k=>match Ji C o.dst t n (k.toList.map (·.1)) u b e with
   |some r=>aa r
   |none=>II C o.dst t n (k.toList.map (·.1)) u b e
  | .call c=>match c.callee with
   | .value _=>match VG e with
    |true=>Jt C o.dst b H u e
    |false=>match S5 e with
     |true=>Jo C o.dst H b e
     |false=>IP C o.dst b e
   | .builtin .append=>match c.args.toList,c.argTypes.toList,b with
    | [_,_],[t,l],[v,w]=>match HB C o.dst t l H v w e with
     |some r=>aa r
     |none=>GW C o.dst t l H v w e
    |_,_,_=>aj
   | .builtin .clear=>match o.dst,c.args.toList,c.argTypes.toList,b with
    |none,[_],[t],[v]=>HT C t H v e
    |_,_,_,_=>aj
   | .builtin .copy=>match c.args.toList,c.argTypes.toList,b with
    | [_,_],[t,_],[v,w]=>IK C o.dst t H v w e
    |_,_,_=>aj
   | .builtin _=>match yN C.P C.cD H o.op b e with
    |some (v,h,e)=>aa (⟨fu o.dst v,[],[]⟩,h,e)
    |none=>aj
   |_=>aj
  |_=>match yN C.P C.cD H o.op b e with
   |some (v,h,e)=>aa (⟨fu o.dst v,[],[]⟩,h,e)
   |none=>aj
theorem ae2{z:Value}{a:List T}(i:(hz z).val=ab)(k:lX (hz z).cs=aa a):z.cells.size=a.length/\ ∀(w:World) (X:Nat->Prop) (j:Nat) (u:Value) (x:T),z.cells[j]? =aa u->(a.map jh)[j]? =aa x->cV w X x u:=by
 have h:=fun(w:World) (X:Nat->Prop)=>(Ah (⟨λ_=>aj,λ_ _=>False⟩:Map) w X z).cells i;have e:=pe k;refine⟨by rw[(h default λ_=>False).1,e,dJ],λw X j u x l b=>?_⟩;rw[eQ] at b;cases c:a[j]? with
 |none=>rw[c] at b;cases b
 |some y=>
  rw[c] at b;simp only[gS,Option.some.injEq] at b;subst b
  have:=(h w X).2 j (.t y) u (by rw[e,eQ,c];rfl) l;cases this with
  |t _ _ m=>exact m.zx
section steps
variable {K:Ctx}{s:S}{d:Option Tmp}{ty:TypeId}{pos:String}{af:Array Edge}{g:Option (Nat×Bool)}
variable {t:TypeId}{u:TypeDesc}{z:Value}{size bytes gen:Nat}
theorem Xa(a:Array Value)(n i j:Nat)(e:i<n)(c:j<a.size):(ea a n).toList[i*a.size+j]? =a[j]? :=by
 have b:i*a.size+j<n*a.size:=by
  have:(i+1)*a.size<=n*a.size:=dU _ e
  grind
 have h:(i*a.size+j)%a.size=j:=by rw[Nat.mul_comm,Nat.mul_add_mod];exact Nat.mod_eq_of_lt c
 simp[ea,b,h,c]
theorem aft(x:Operand)(E c h:Nat)(e e':TypeId)(rows:List (List T))(A:List T)(hx:s.get x= .bo E gen size c h)(hH:s.H E=aa (.arr e' gen size rows))(fB:K.P.underlying t=aa (.slice e)){sz:Nat}(he:cr K.P e u z sz bytes)
  (bZ:(hz z).val=ab) (ep:lX (hz z).cs=aa A) (G:A.length=size) (cC:c+h<=rows.length):
  ef K ⟨aj,.call {callee:= .builtin .clear,args:= #[x],argTypes:= #[t]},ty,pos,af,g⟩ s {s with H:=aZ s.H E (aa (.arr e' gen size (rows.take c++dE h (A.map jh)++rows.drop (c+h))))}:=by
 intro β a w next Q b8 I
 have L:=b8.get x;rw[hx] at L;have M:=(b8.heap E _ hH).2;obtain⟨q,N⟩:=kx M;obtain⟨o1,U⟩:=ae2 bZ ep;unfold Oper.wp;cases h with
 |zero=>
  obtain⟨gF,cap,o⟩: ∃gF cap,a.eval x= .slice gF 0 cap:=by
   rcases fl L N with ⟨cap,b,n,jn,o,_⟩|⟨_,_,_,o⟩
   ·exact⟨_,cap,o⟩
   exact⟨aj,0,o⟩
  have y:(execOp a.eval ⟨aj,.call {callee:= .builtin .clear,args:= #[x],argTypes:= #[t]},ty,pos,af,g⟩).run K.P w= .ok (.value (.tuple #[])) w:=by
   cases gF<;>simp[execOp,resolve,invoke,builtin,o,Builtin.clear_,run_underlying fB]
  rw[y]
  have:rows.take c++dE 0 (A.map jh)++rows.drop (c+0)=rows:=a7
  refine I β _ _ ?_;rw[this];exact b8.z1 E _ hH
 |succ h=>
  rcases fl L N with ⟨cap,b,n,jn,o,k1,hw,hs,cK,pZ,hm⟩|⟨_,_,h0,_⟩
  ·subst k1;rcases M.2 with ⟨V,_⟩|⟨cB,C,V,h2,h3,h4,h5⟩
   ·rw[N] at V;cases V
   rw[N] at V;cases V;have D:z.cells.size=size:=by rw[o1,G]
   have p:(ea z.cells (h+1)).toList.length=(h+1)*size:=by rw[pr,size_zeroCells,D]
   have nS:c*size+(h+1)*size<=C.size:=by
    have:(c+(h+1))*size<=rows.length*size:=dU _ cC;rw[ed] at this;omega
   have r: ∀(i j:Nat) (u:Value),i<h+1->j<size->(ea z.cells (h+1)).toList[i*size+j]? =aa u->z.cells[j]? =aa u:=by
    intro i j u aJ F hu;rw[<-D] at F hu
    rwa [Xa _ _ _ _ aJ F] at hu
   have Y: ∀v∈(ea z.cells (h+1)).toList,v.oneCell'=ab:=by
    intro v ajd;obtain⟨k,I⟩:=j1.1 ajd;have R:=(b5.1 I).1;rw[p] at R;have hp:0<size:=by
     rcases Nat.eq_zero_or_pos size with e0|e0
     ·rw[e0] at R;omega
     exact e0
    have hdiv:k / size<h+1:=(xa hp).2 R;have SD:k%size<size:=Nat.mod_lt _ hp;have pY:(ea z.cells (h+1)).toList[k / size*size+k%size]? =aa v:=by rw[Nat.div_add_mod'];exact I
    have h9:=r _ _ _ hdiv SD pY
    have:(A.map jh)[k%size]? =aa (jh A[k%size]):=by rw[eQ,bu O];rfl
    exact(bt.t (β:=β) _ _ (U w (λ_=>False) _ _ _ h9 this)).jF rfl
   have p3:=run_storeCells_at K.P b (c*size) e' (ea z.cells (h+1)).toList 0 C w h2 (by rw[p];omega) Y;simp only[Nat.add_zero] at p3;have y:(execOp a.eval ⟨aj,.call {callee:= .builtin .clear,args:= #[x],argTypes:= #[t]},ty,pos,af,g⟩).run K.P w= .ok (.value (.tuple #[])) (w.setRow b (C.toList.take (c*size)++(ea z.cells (h+1)).toList++C.toList.drop (c*size+(ea z.cells (h+1)).toList.length)).toArray):=by
    simp[execOp,resolve,invoke,builtin,o,Builtin.clear_,run_underlying fB,he.t',p3]
   rw[y];refine I β _ _ (Pl b8 E b e' rows _ C _ hH N h2 (by simp[p];omega) ?_ ?_ ?_)
   ·have:(rows.take c++dE (h+1) (A.map jh)++rows.drop (c+(h+1))).length=rows.length:=b6
    rw[this];exact h3
   ·intro m l;rw[eY,eY] at l;rcases l with (l|l)|l
    ·exact h4 m (gP l)
    ·rw[(xb.1 l).2,dJ];exact G
    exact h4 m (fN l)
   intro i j m j2 rU aL a2 a3;have a3:(C.toList.take (c*size)++(ea z.cells (h+1)).toList++C.toList.drop (c*size+(ea z.cells (h+1)).toList.length))[i*size+j]? =aa rU:=by simpa using a3
   rw[p] at a3;have B:(C.toList.take (c*size)).length=c*size:=b6
   by_cases c1:i<c
   ·rw[fF,jI b6,gC,bb c1] at aL;have F:j<size:=by rw[<-h4 m (bT aL)];exact(b5.1 a2).1
    have hlt:i*size+j<c*size:=pc c1 F;rw[fF,jI O,gC,bb hlt] at a3;exact .inl ⟨i,m,aL,a2,by simpa using a3⟩
   by_cases c2:i<c+(h+1)
   ·rw[jI b6,jr b6] at aL;have l:m=A.map jh:=by
     have:=bT aL;exact(xb.1 this).2
    subst l;have F:j<size:=by rw[<-G,<-dJ (f:=jh)];exact(b5.1 a2).1
    have e1:i*size+j=c*size+((i-c)*size+j):=by rw[Nat.sub_mul];have:=dU size (O:c<=i);omega
    have hlt:(i-c)*size+j<(h+1)*size:=pc O F;rw[e1,jI (by rw[dm,B,p];omega),jr O,B,Nat.add_sub_cancel_left] at a3;exact .inr λw X=>U w X j _ _ (r _ _ _ O F a3) a2
   have W:(rows.take c++dE (h+1) (A.map jh)).length=c+(h+1):=b6
   rw[jr O,W,gq,show c+(h+1)+(i-(c+(h+1)))=i by omega] at aL;have F:j<size:=by rw[<-h4 m (bT aL)];exact(b5.1 a2).1
   have k3:c*size+(h+1)*size<=i*size+j:=by
    have:=dU size (O:c+(h+1)<=i);rw[ed] at this;omega
   rw[jr (by rw[dm,B,p];omega),dm,B,p,gq,show c*size+(h+1)*size+(i*size+j-(c*size+(h+1)*size))=i*size+j by omega] at a3;exact .inl ⟨i,m,aL,a2,by simpa using a3⟩
  omega
theorem aab(k h l c:Nat)(x y:Operand)(e:TypeId)(rows:List (List T))(cO: ∀i,d=aa i->dw i K.nt=ab)(hx:s.get x= .bo k gen size 0 h)(hy:s.get y= .bo k gen size l c)(hH:s.H k=aa (.arr e gen size rows))
  (fB:K.P.underlying t=aa (.slice e)) (he:cr K.P e u z size bytes) (hp:0<size) (h1:h+c<=rows.length) (h2:l+c<=rows.length):
  ef K ⟨d,.call {callee:= .builtin .append,args:= #[x,y],argTypes:= #[t,t]},ty,pos,af,g⟩ s
   (({s with H:=aZ s.H k (aa (.arr e gen size (rows.take h++(rows.drop l).take c++rows.drop (h+c))))}:S).put d (.bo k gen size 0 (h+c))):=by
 intro β a w next Q b8 hkk
 have I:=b8.get x;rw[hx] at I;have mT:=b8.get y;rw[hy] at mT;have jB:=(b8.heap k _ hH).2;have jc:=jB.1;obtain⟨q,M⟩:=kx jB;obtain⟨_,i,oZ,hi2,pX,rl⟩:=id he;unfold Oper.wp;cases c with
 |zero=>
  obtain⟨gF,cap,N⟩: ∃gF cap,a.eval y= .slice gF 0 cap:=by
   rcases fl mT M with ⟨cap,b,n,jn,p,_⟩|⟨_,_,_,p⟩
   ·exact⟨_,cap,p⟩
   exact⟨aj,0,p⟩
  have aiZ:rows.take h++(rows.drop l).take 0++rows.drop (h+0)=rows:=a7
  have G:(execOp a.eval ⟨d,.call {callee:= .builtin .append,args:= #[x,y],argTypes:= #[t,t]},ty,pos,af,g⟩).run K.P w= .ok (.value (a.eval x)) w:=by
   rcases fl I M with ⟨yG,b,n,jn,p,_,_,_,_,cC,_⟩|⟨_,_,_,p⟩
   ·cases gF<;>simp[execOp,resolve,invoke,builtin,p,N,iX,run_underlying fB,sizeOf,typeInfo,oZ,Builtin.lenOf,Builtin.firstCells,cC,storeCells,loadCells,loadCellsFrom]
   cases gF<;>simp[execOp,resolve,invoke,builtin,p,N,iX,run_underlying fB,sizeOf,typeInfo,oZ,Builtin.lenOf,Builtin.firstCells,loadCells,loadCellsFrom]
  rw[G];refine hkk β _ w ?_;have lv:aZ s.H k (aa (E.arr e gen size rows))=s.H:=by
   funext j;by_cases D:j=k
   ·subst D;rw[cd,hH]
   rw[cg _ _ _ _ D]
  rw[aiZ,lv];exact b8.put d cO I
 |succ c=>
  rcases fl mT M with ⟨ahe,b,n,jn,N,k1,hw,hs,cK,pZ,hm⟩|⟨_,_,h0,_⟩
  ·subst k1;rcases fl I M with ⟨A,hr,KI,akI,p,k2,y9,U,tq,alj,DG⟩|⟨h0,_⟩
   ·cases k2;rcases jB.2 with ⟨g1,_⟩|⟨cB,B,g1,g2,g3,g4,g5⟩
    ·rw[M] at g1;cases g1
    rw[M] at g1;cases g1;have SS:B.size=KI:=by
     unfold gj at U;rw[g2] at U;simp at U;exact U.2
    obtain⟨C,SV⟩: ∃C,C=(B.toList.drop (l*size)).take ((c+1)*size):=⟨_,rfl⟩
    have hle:(l+(c+1))*size<=B.size:=eR (dU _ h2) g3;rw[ed] at hle;have F:C.length=(c+1)*size:=by rw[SV];simp;omega
    have L: ∀j v,C[j]? =aa v->B[l*size+j]? =aa v/\j<(c+1)*size:=λj v bZ=>by
     have D:=(b5.1 bZ).1;rw[F] at D;rw[SV,gC,bb D,gq] at bZ;exact⟨by simpa using bZ,D⟩
    have V: ∀r,r<rows.length-> ∃m,rows[r]? =aa m/\m.length=size:=λr yZ=>⟨_,bu yZ,g4 _ (gg yZ)⟩
    have hcell: ∀j v,C[j]? =aa v->w.cell? ((⟨b,l*size,aj⟩:Addr).add j)=aa v:=λj v bZ=>by
     rw[jA];simp only[World.cell?,g2];exact(L j v bZ).1
    have mS: ∀v,v∈C->v.oneCell'=ab:=λv bZ=>by
     obtain⟨j,D⟩:=j1.1 bZ;obtain⟨h3,h4⟩:=L j v D;have SD:j%size<size:=Nat.mod_lt _ hp;have hdiv:j / size<c+1:=(xa hp).2 h4;obtain⟨m,Kj,y3⟩:=V (l+j / size) O;have ah7:(l+j / size)*size+j%size=l*size+j:=by rw[ed,qu,Nat.div_add_mod']
     exact(g5 (l+j / size) (j%size) m m[j%size] v Kj (bu O) (by rw[ah7];exact h3)).jF
    have nS:h*size+C.length<=B.size:=by
     rw[F,<-ed];exact eR (dU _ h1) g3
    have R:h+(c+1)<=A:=by
     have:(h+(c+1))*size<=A*size:=by
      rw[dI] at tq;rw[tq,<-SS];exact eR (dU _ h1) g3
     exact Nat.le_of_mul_le_mul_right this hp
    have W:=run_append_room (P:=K.P) w t ty e i fB oZ b h A B g2 ⟨b,l*size,aj⟩ (c+1) ahe C (by rw[pX];exact F) hcell mS R (by rw[pX];exact nS);rw[pX] at W;have G:(execOp a.eval ⟨d,.call {callee:= .builtin .append,args:= #[x,y],argTypes:= #[t,t]},ty,pos,af,g⟩).run K.P w= .ok (.value (.slice (aa ⟨b,0,aj⟩) (h+(c+1)) A)) (w.setRow b (B.toList.take (h*size)++C++B.toList.drop (h*size+C.length)).toArray):=by
     rw[gQ] at p;simp[execOp,resolve,invoke,builtin,p,N,W]
    rw[G];have Y:(B.toList.take (h*size)).length=h*size:=b6
    have SQ:(B.toList.take (h*size)++C++B.toList.drop (h*size+C.length)).toArray.size=B.size:=b6
    have X:(rows.take h).length=h:=by rw[c7];omega
    have f:((rows.drop l).take (c+1)).length=c+1:=by rw[c7,fY];omega
    have hrel:=Pl b8 k b e rows (rows.take h++(rows.drop l).take (c+1)++rows.drop (h+(c+1))) B _ hH M g2 SQ ?_ ?_ ?_
    ·refine hkk β _ _ (hrel.put d cO ?_);have lB:bt β (w.setRow b (B.toList.take (h*size)++C++B.toList.drop (h*size+C.length)).toArray) (own K β (aZ s.H k (aa (.arr e gen size (rows.take h++(rows.drop l).take (c+1)++rows.drop (h+(c+1))))))) (.bo k gen size 0 (h+(c+1))) (.slice (aa ⟨b,0*size,aj⟩) (h+(c+1)) A):=by
      refine .bo k gen size 0 _ A b KI e jc M (by simpa using y9) ?_ tq R DG;unfold gj;rw[setRow_heap _ _ _ _ _ _ g2];simp only[SQ,SS]
     rw[gQ] at lB;exact lB
    ·rw[dm,dm,X,f,fY]
     have:h+(c+1)+(rows.length-(h+(c+1)))=rows.length:=O
     rw[this];exact g3
    ·intro m o;rw[eY,eY] at o;rcases o with (o|o)|o
     ·exact g4 m (gP o)
     ·exact g4 m (fN (gP o))
     exact g4 m (fN o)
    intro r j m j2 rU aL a2 a3;have a3:(B.toList.take (h*size)++C++B.toList.drop (h*size+C.length))[r*size+j]? =aa rU:=by simpa using a3
    refine .inl ?_;by_cases c1:r<h
    ·rw[fF,jI O,gC,bb c1] at aL;have D:j<size:=by rw[<-g4 m (bT aL)];exact(b5.1 a2).1
     have hlt:r*size+j<h*size:=pc c1 D;rw[fF,jI O,gC,bb hlt] at a3;exact⟨r,m,aL,a2,by simpa using a3⟩
    by_cases c2:r<h+(c+1)
    ·rw[jI (by rw[dm];omega),jr O,X,gC,bb O,gq] at aL;have D:j<size:=by rw[<-g4 m (bT aL)];exact(b5.1 a2).1
     have e1:r*size+j=h*size+((r-h)*size+j):=by rw[Nat.sub_mul];have:=dU size (O:h<=r);omega
     have hlt:(r-h)*size+j<(c+1)*size:=pc O D;rw[e1,jI (by rw[dm,Y,F];omega),jr O,Y,Nat.add_sub_cancel_left] at a3;have h9:=(L _ _ a3).1;exact⟨l+(r-h),m,aL,a2,by rw[ed,qu];exact h9⟩
    have aiA:(rows.take h++(rows.drop l).take (c+1)).length=h+(c+1):=by rw[dm,X,f]
    rw[jr O,aiA,gq,show h+(c+1)+(r-(h+(c+1)))=r by omega] at aL;have D:j<size:=by rw[<-g4 m (bT aL)];exact(b5.1 a2).1
    have k3:h*size+(c+1)*size<=r*size+j:=by
     have:=dU size (O:h+(c+1)<=r);rw[ed] at this;omega
    rw[jr (by rw[dm,Y,F];omega),dm,Y,F,gq,show h*size+(c+1)*size+(r*size+j-(h*size+(c+1)*size))=r*size+j by omega] at a3;exact⟨r,m,aL,a2,by simpa using a3⟩
   rw[M] at *; cases h0
  omega
theorem Zk(k R:Nat)(x y:Operand)(e f:TypeId)(p:List (List T))(j: ∀i,d=aa i->dw i K.nt=ab)(v:s.get x= .bo k gen size 0 R)(E:dO (s.get y) (.t (.bE [])))(I:s.H k=aa (.arr f gen size p))
  (W:K.P.underlying t=aa (.slice e)) (M:cr K.P e u z size bytes) (N:0<size):
  ef K ⟨d,.call {callee:= .builtin .append,args:= #[x,y],argTypes:= #[t,t]},ty,pos,af,g⟩ s (s.put d (.bo k gen size 0 R)):=by
 intro U a w next Q D F
 have h:=D.get x;rw[v] at h;have G:=E _ _ _ _ (D.get y);have L:=(D.heap k _ I).2;obtain⟨q,V⟩:=kx L;obtain⟨_,i,r,Y,pX,rl⟩:=id M;unfold Oper.wp;obtain⟨m,cap,A⟩: ∃m cap,a.eval y= .slice m 0 cap:=by
  rcases BK G (Rows.nil size) N with (⟨B,_⟩|⟨b,o,c,_,B,_⟩)|⟨_,m,cap,B⟩
  ·exact⟨aj,0,B⟩
  ·exact⟨_,c,B⟩
  exact⟨m,cap,B⟩
 have C:(execOp a.eval ⟨d,.call {callee:= .builtin .append,args:= #[x,y],argTypes:= #[t,t]},ty,pos,af,g⟩).run K.P w= .ok (.value (a.eval x)) w:=by
  rcases fl h V with ⟨X,b,n,jn,l,_,_,_,_,cC,_⟩|⟨_,_,_,l⟩
  ·cases m<;>simp[execOp,resolve,invoke,builtin,l,A,iX,run_underlying W,sizeOf,typeInfo,r,Builtin.lenOf,Builtin.firstCells,cC,storeCells,loadCells,loadCellsFrom]
  cases m<;>simp[execOp,resolve,invoke,builtin,l,A,iX,run_underlying W,sizeOf,typeInfo,r,Builtin.lenOf,Builtin.firstCells,loadCells,loadCellsFrom]
 rw[C];exact F U _ w (D.put d j h)
theorem abD{size off:Nat}{a c:List (List T)}{us cs:List Value}(r:off+m<=a.length)(A:a.length*size<=us.length)(o:cs.length=m*size)(B:m<=c.length)(p: ∀b,b∈a->b.length=size)(e: ∀b,b∈c->b.length=size){R:T->Value->Prop}
  (q: ∀(i j:Nat) (b:List T) (x:T) (u:Value),a[i]? =aa b->b[j]? =aa x->us[i*size+j]? =aa u->R x u)
  (w: ∀(i j:Nat) (b:List T) (x:T) (u:Value),c[i]? =aa b->b[j]? =aa x->cs[i*size+j]? =aa u->R x u):
  ∀(i j:Nat) (b:List T) (x:T) (u:Value),(a.take off++c.take m++a.drop (off+m))[i]? =aa b->b[j]? =aa x->(us.take (off*size)++cs++us.drop (off*size+cs.length))[i*size+j]? =aa u->R x u:=by
 have C:off*size+m*size<=a.length*size:=by rw[<-ed];exact dU _ r
 have y:=xw (us.take (off*size)) cs [] (rows:=a.take off) (news:=c.take m) (n:=off) (size:=size) (by rw[c7];omega) (by rw[c7];omega) (by rw[c7,o];congr 1;omega)
  (λb h=>p b (gP h)) (λb h=>e b (gP h)) (R:=R)
  (λk j b x u aL a2 a3=>by
   rw[gC] at aL a3;split at aL
   ·split at a3
    ·exact q k j b x u aL a2 a3
    cases a3
   cases aL)
  (λk j b x u aL a2 a3=>by
   rw[gC] at aL;split at aL
   ·exact w k j b x u aL a2 a3
   cases aL)
 have l:(us.drop (off*size+cs.length)).length=us.length-(off+m)*size:=by rw[fY,o,ed]
 have dQ:=xw (us.take (off*size)++cs) ((us.drop (off*size+cs.length)).take ((a.length-(off+m))*size)) ((us.drop (off*size+cs.length)).drop ((a.length-(off+m))*size)) (rows:=a.take off++c.take m) (news:=a.drop (off+m)) (n:=off+m) (size:=size)
  (by rw[dm,c7,c7];omega) (by rw[dm,c7,o,ed];omega)
  (by
   rw[c7,l,fY]
   have:(a.length-(off+m))*size=a.length*size-(off+m)*size:=Nat.sub_mul _ _ _;omega)
  (λb h=>by
   rcases eY.1 h with h|h
   ·exact p b (gP h)
   exact e b (gP h)) (λb h=>p b (fN h)) (R:=R) (λk j b x u aL a2 a3=>y k j b x u aL a2 (by simpa using a3))
  (λk j b x u aL a2 a3=>by
   rw[gq] at aL;rw[gC] at a3;split at a3
   ·rw[gq,o] at a3;refine q (off+m+k) j b x u aL a2 ?_;rw[ed,ed,qu];exact a3
   cases a3)
 intro i j b x u aL a2 a3;refine dQ i j b x u aL a2 ?_;rw[fF _ (List.take _ _),qw];exact a3
theorem agC(x y:Operand)(E c len:Nat)(e e' mu:TypeId)(rows k:List (List T))(cO: ∀i,d=aa i->dw i K.nt=ab)(hx:s.get x= .bo E gen size c len)(hy:dO (s.get y) (.t (.bE k)))(hH:s.H E=aa (.arr e' gen size rows))(fB:K.P.underlying t=aa (.slice e))
  (he:cr K.P e u z size bytes) (hp:0<size) (I: ∀r,r∈k->r.length=size) (cC:c+len<=rows.length):
  ef K ⟨d,.call {callee:= .builtin .copy,args:= #[x,y],argTypes:= #[t,mu]},ty,pos,af,g⟩ s
   (({s with H:=aZ s.H E (aa (.arr e' gen size (rows.take c++k.take (Nat.min k.length len)++rows.drop (c+Nat.min k.length len))))}:S).put d (.t (.int .i64 (Nat.min k.length len:Nat)))):=by
 intro β a w next Q b8 hk
 have M:=b8.get x;rw[hx] at M;have mT:=hy _ _ _ _ (b8.get y);have N:=(b8.heap E _ hH).2;obtain⟨q,U⟩:=kx N;obtain⟨_,i,oZ,hi2,pX,rl⟩:=he;unfold Oper.wp;have ajl: ∃C c1,a.eval x= .slice C len c1:=by
  rcases fl M U with ⟨D,b,n,jn,B,_⟩|⟨_,_,h0,B⟩
  ·exact⟨_,D,B⟩
  subst h0;exact⟨aj,0,B⟩
 have W:=BK mT I hp;have ajo: ∃KY c2,a.eval y= .slice KY k.length c2:=by
  rcases W with (⟨A,X⟩|⟨b,c,D,G,A,_⟩)|⟨X,gF,D,A⟩
  ·subst X;exact⟨aj,0,A⟩
  ·exact⟨_,_,A⟩
  subst X;exact⟨gF,D,A⟩
 obtain⟨m,hm⟩: ∃m,m=Nat.min k.length len:=⟨_,rfl⟩
 rw[<-hm] at hk;by_cases V:m=0
 ·subst V;obtain⟨C,c1,B⟩:=ajl;obtain⟨KY,c2,A⟩:=ajo;have F:(execOp a.eval ⟨d,.call {callee:= .builtin .copy,args:= #[x,y],argTypes:= #[t,mu]},ty,pos,af,g⟩).run K.P w= .ok (.value (goInt ((0:Nat):Int))) w:=by
   cases C<;>cases KY<;>simp[execOp,resolve,invoke,builtin,B,A,Builtin.copy_,run_underlying fB,sizeOf,typeInfo,oZ,Builtin.lenOf,Builtin.firstCells,<-hm,loadCells,loadCellsFrom,storeCells]
  rw[F]
  have:rows.take c++k.take 0++rows.drop (c+0)=rows:=a7
  rw[this] at hk;exact hk β _ _ ((b8.z1 E _ hH).put d cO (.t _ _ (.int _ _)))
 have aln:m<=len:=by rw[hm];exact Nat.min_le_right _ _
 have o:m<=k.length:=by rw[hm];exact Nat.min_le_left _ _
 rcases W with (⟨_,X⟩|⟨cB,akr,Dr,f,A,o0,y',lC,hwr⟩)|⟨X,_⟩
 ·subst X;simp at o;exact bs o V
 ·rcases fl M U with ⟨D,b,n,jn,B,k1,hw,hs,X,pZ,ly⟩|⟨_,_,h0,_⟩
  ·subst k1;rcases N.2 with ⟨h1,_⟩|⟨Y,G,h1,h2,h3,h4,h5⟩
   ·rw[U] at h1;cases h1
   rw[U] at h1;cases h1;have L:(f.take (m*size)).length=m*size:=by rw[c7,o0];have:=dU size o;omega
   have nS:c*size+m*size<=G.size:=by
    have:(c+m)*size<=rows.length*size:=dU _ O;rw[ed] at this;omega
   have SA:=run_loadCells_list (P:=K.P) w ⟨cB,akr,aj⟩ (f.take (m*size)) (λj y hj=>by
    rw[jA];rw[gC] at hj;split at hj
    ·exact y' j y hj
    cases hj)
   have p3:=run_storeCells_at K.P b (c*size) e' (f.take (m*size)) 0 G w h2 (by rw[L];omega) λv bZ=>lC v (gP bZ);simp only[Nat.add_zero] at p3;rw[L] at SA;have F:(execOp a.eval ⟨d,.call {callee:= .builtin .copy,args:= #[x,y],argTypes:= #[t,mu]},ty,pos,af,g⟩).run K.P w= .ok (.value (goInt (m:Int))) (w.setRow b (G.toList.take (c*size)++f.take (m*size)++G.toList.drop (c*size+(f.take (m*size)).length)).toArray):=by
    simp[execOp,resolve,invoke,builtin,B,A,Builtin.copy_,run_underlying fB,sizeOf,typeInfo,oZ,pX,Builtin.lenOf,Builtin.firstCells,<-hm,SA,p3]
   rw[F];have lA:(G.toList.take (c*size)++f.take (m*size)++G.toList.drop (c*size+(f.take (m*size)).length)).toArray.size=G.size:=by
    have h2: ∀l:List Value,l.toArray.size=l.length:=λl=>a7
    rw[h2];simp only[List.length_append,L,List.length_take,List.length_drop,Array.length_toList];omega
   have hlen:(rows.take c++k.take m++rows.drop (c+m)).length=rows.length:=b6
   have hb':own K β s.H b:= .inr ⟨E,by rw[hH];simp,.inl ⟨_,U⟩⟩;refine hk β _ _ (Rel.put (Rel.setRow b8 E b (.inl ⟨_,U⟩) G e' h2 _ lA (.arr e' gen size (rows.take c++k.take m++rows.drop (c+m))) (by rw[hH];simp)
    ⟨N.1,Or.inr ⟨b,_,U,setRow_heap _ _ _ _ _ _ h2,by rw[lA,hlen];exact h3,λr p=>?_,λi j r x u aL a2 a3=>?_⟩⟩) d cO (.t _ _ (.int _ _)))
   ·rw[eY,eY] at p;rcases p with (p|p)|p
    ·exact h4 r (gP p)
    ·exact I r (gP p)
    exact h4 r (fN p)
   have h9:=abD (off:=c) (m:=m) (us:=G.toList) (cs:=f.take (m*size)) O (by simpa using h3) L o h4 I (R:=λx u=>cV w (own K β s.H) x u) (λi j r x u dd cB Y=>h5 i j r x u dd cB (by simpa using Y))
    (λi j r x u dd cB Y=>by
     rw[gC] at Y;split at Y
     ·exact hwr i j r x u dd cB Y
     cases Y) i j r x u aL a2 (by simpa using a3)
   refine h9.mono ⟨rfl,rfl,rfl,a7,λkk _ hx=>setRow_other _ _ _ _ λe0=>hx ?_⟩ λ_ _ h=>h;subst e0;exact hb'
  omega
 subst X;simp at o;exact bs o V
end steps
end
variable {P:Program}{r:List Nat}{o:Oper}{v a:V}{b i l M F Q W:List cM}{c m mC:List dN}{k gen n size:Nat}{e:df}{e':E}{t:TypeId}{x y:Operand}{u:Nat->Bool}{z:Value}
theorem cv.sub{H r:Nat->Option E}{Y:List V}(h:cv P H o Y v)(a: ∀k e,H k=aa e->r k=aa e):cv P r o Y v:=
 λβ w X b c i=>h β w X b (λid e l=>c id e (a id e l)) i
theorem ef.Lb{K:Ctx}{s b c:S}(h:ef K o s b)(m: ∀β a w,Rel K β b a w->Rel K β c a w):ef K o s c:=
 λβ a w next Q n p=>h β a w next Q n λe k l i=>p e k l (m e k l i)
theorem afS{K:Ctx}{β:Map}{H:Nat->Option E}{e:E}(l:H k=aa e):own K β (aZ H k (aa e'))=own K β H:=by
 funext b;apply propext;constructor
 ·rintro(h|⟨id,i,a⟩)
  ·exact .inl h
  by_cases c:id=k
  ·subst c;exact .inr ⟨id,by rw[l];simp,a⟩
  rw[cg _ _ _ _ c] at i;exact .inr ⟨id,i,a⟩
 rintro(h|⟨id,i,a⟩)
 ·exact .inl h
 by_cases c:id=k
 ·subst c;exact .inr ⟨id,by rw[cd];simp,a⟩
 exact .inr ⟨id,by rw[cg _ _ _ _ c];exact i,a⟩
theorem Rel.Tl{K:Ctx}{β:Map}{s:S}{a:Act}{w:World}(h:Rel K β s a w)(k:Nat){e:E}(l:s.H k=aa e)(o: ∀X,cY β w X k e->cY β w X k e'):Rel K β {s with H:=aZ s.H k (aa e')} a w:=by
 have et:=afS (K:=K) (β:=β) (e':=e') l;refine {h with heap:= ?_,dB:= ?_}
 ·intro id c m;show _/\cY β w (own K β (aZ s.H k (aa e'))) id c;rw[et];by_cases n:id=k
  ·subst n;have b:aZ s.H id (aa e') id=aa c:=m;rw[cd] at b;cases b;obtain⟨p,q⟩:=h.heap id e l
   grind
  have b:aZ s.H k (aa e') id=aa c:=m;rw[cg _ _ _ _ n] at b;exact h.heap id c b
 intro i;show bt β w (own K β (aZ s.H k (aa e'))) _ _;rw[et];exact h.dB i
section
variable {K:Ctx}{s:S}{d:Option Tmp}{ty:TypeId}{pos:String}{af:Array Edge}{g:Option (Nat×Bool)}
theorem PF{f:FuncId}{c:Operand}{b:Array Operand}{k:Array TypeId}(l:List V)(args:List V)(r:V)
  (D:iH K.P f) (F:s.get c= .fn f l) (L: ∀i,d=aa i->dw i K.nt=ab) (R:fG (b.toList.map s.get++l) args) (W:gL gK args=ab) (h:F6 K.P K.G f args r):
  ef K ⟨d,.call {callee:= .value c,args:=b,argTypes:=k},ty,pos,af,g⟩ s (s.put d r):=by
 obtain⟨B,j,t,v⟩:=D;intro β a w next Q n I
 have x:B.name≠ "runtime.NumGoroutine" :=by simpa using t
 have y:B.body≠aj:=by intro e;simp[e] at v
 obtain⟨us,z,A⟩:=(F▸n.get c).JN;have o:(execOp a.eval ⟨d,.call {callee:= .value c,args:=b,argTypes:=k},ty,pos,af,g⟩).run K.P w= .ok (.enter f (b.map a.eval++us)) w:=by
  simp[execOp,resolve,Deferred.ofValue,z,invoke,callFunc,j,x,y]
 unfold Oper.wp;rw[o,Oper.upon_enter];have m:=(dx.le ((n.oX b.toList).app A) R).KK W;have p:=h w (own K β s.H) _ n.Dy n.KM m;have M:(List.map a.eval b.toList++us.toList).toArray=b.map a.eval++us:=by rw[<-xc,<-Array.toList_append]
 rw[M] at p;refine p.mono ?_;rintro e N ⟨u,rfl,q,T⟩;exact I β _ N ((n.grow q).put d L (T.any λ_ h=>h))
theorem se{s:S}{d:Option Tmp}{e:E}:df.app ⟨fu d v,[(k,aa e)],[(k,ab)]⟩ s=(s.new k e).put d v:=by cases d<;>rfl
theorem pj{s:S}{d:Option Tmp}:df.app ⟨fu d v,[],[]⟩ s=s.put d v:=by cases d<;>rfl
theorem aep(a: ∀k,u k=ak->s.u k=ak)(l:ki K.nt d=ab)(m:s.get x=v)
  (h:ve d u v i=aa (e,c,b)):ef K ⟨d,.box t x,ty,pos,af,g⟩ s (e.app s):=by
 unfold ve at h;split at h
 ·split at h
  ·rename_i n o;cases h;rw[se];exact U3 _ (a _ n) x v (hA l) m o
  cases h
 cases h
theorem ae3{H:Nat->Option E}(x:Operand)(v:V)(e:List T)(m:v.val=ab)(i:v.cs=e.map .t):CY P H ⟨d,.box t x,ty,pos,af,g⟩ [v] (.aS e):=by
 intro β w X a _ n o;obtain⟨k,p⟩:=(show bt β w X v (a x) from o.1).cells m;have b:(execOp a ⟨d,.box t x,ty,pos,af,g⟩).run P w= .ok (.value (.pointer (aa ⟨w.heap.size,0,aj⟩))) (w.alloc (.cells (a x).cells t)):=by
  simp[execOp,Instr.box,newVar,newRow]
 refine⟨_,_,b,Ext.alloc _ _ _,?_⟩;refine .aS e w.heap.size 0 (λj=>(a x).cells.getD j undef) a7 (λh=>by have:=n _ h;omega) (λj c=>?_) λj y l=>?_
 ·rw[dI,World.cell?_alloc_new]
  have:j<(a x).cells.size:=by rw[k,i];simpa using c
  simp[this]
 have c:j<(a x).cells.size:=by rw[k,i,dJ];exact(b5.1 l).1
 have q:=p j (.t y) (a x).cells[j] (by rw[i,eQ,l];rfl) (by simp[c]);cases q with
 |t _ _ h=>
  have:(a x).cells.getD j undef=(a x).cells[j]:=by simp[c]
  rw[this];exact h.mono (Ext.alloc X _ _) λ_ _ h=>h
theorem acb(a:ki K.nt d=ab)(k:s.get x=v)
  (h:IQ d v i=aa (e,c,b)):ef K ⟨d,.box t x,ty,pos,af,g⟩ s (e.app s):=by
 unfold IQ at h;split at h
 ·split at h
  ·rename_i l m n;cases h;rw[pj];exact Ln (vals:=[oc v]) (hA a) ⟨k▸uV _,trivial⟩ (ae3 x _ l m (pe n))
  cases h
 cases h
theorem abq{a:List (Nat×cu)}(m:eg K.P a){i:cu}(n:dG a t=aa i)(o: ∀k,u k=ak->s.u k=ak)(p:ki K.nt d=ab)
  (h:ve d u (hz i.z) l=aa (e,c,b)):ef K ⟨d,.alloc t,ty,pos,af,g⟩ s (e.app s):=by
 unfold ve at h;split at h
 ·split at h
  ·rename_i q r;cases h;rw[se];obtain⟨y,x,_⟩:=m _ _ n;exact afu _ (o _ q) (hA p) x r
  cases h
 cases h
theorem abj{c:List (Nat×cu)}(W:eg K.P c){C:eb}(f:C.cD=c){H:Nat->Option E}(F: ∀k e,H k=aa e->s.H k=aa e)
  (G:s.get x=a) (L:s.get y=v) (h:H6 C t H a v l=aa (e,m,b)) (o:cI m):ef K ⟨aj,.store t x y,ty,pos,af,g⟩ s (e.app s):=by
 subst f;unfold H6 at h;split at h
 ·cases h
 rename_i i j;obtain⟨U,Q,_⟩:=W _ _ j;split at h
 ·split at h
  ·rename_i cs p;split at h
   ·rename_i q z A u;cases h;exact afs _ _ _ _ cs v G L (F _ _ p) Q q z A u
   cases h
  cases h
 ·split at h
  ·rename_i I R M n N r B l p D;split at h
   ·rename_i q z A;cases h;obtain⟨rfl,rfl,T,rfl,_⟩:=o;exact aau x y _ _ _ I n r N G (v:=oc v) (by rw[L];exact uV v) (pe D) q (F _ _ p) Q T (m0 z) (fg A)
   cases h
  cases h
 cases h
theorem BX{k i n:Nat}: ∀{l:List (Nat×Nat×V)},cI (u3 k i n l)-> ∀c b e,(c,b,e)∈l->i<=b->b<i+n->c=k
 |h::l,a,c,b,e,hm,m,o=>by
  simp only[u3] at a;rcases d'.1 hm with rfl|hm
  ·have q:dD i b=ab:=Nat.ble_eq_true_of_le m;have r:dw b (i+n)=ab:=by simpa[Nat.blt_eq] using o
   simp only[q,r,Bool.and_self,cond_true] at a;exact a.1
  cases p:(dD i h.2.1&&dw h.2.1 (i+n)) with
  |true=>rw[p] at a;exact BX a.2 c b e hm m o
  |false=>rw[p] at a;exact BX a c b e hm m o
theorem BZ{k off n:Nat}: ∀{i:List (Nat×Nat×V)},cI (u4 k off n i)-> ∀c b e,(c,b,e)∈i->off<=b->b<off+n->c≠k
 | [],_,_,_,_,hm,_,_=>by cases hm
 |h::i,a,c,b,e,hm,l,m=>by
  unfold u4 at a;rcases d'.1 hm with rfl|hm
  ·have p:dD off b=ab:=Nat.ble_eq_true_of_le l;have q:dw b (off+n)=ab:=by simpa[Nat.blt_eq] using m
   simp only[p,q,Bool.and_self,cond_true] at a;exact a.1
  cases o:(dD off h.2.1&&dw h.2.1 (off+n)) with
  |true=>rw[o] at a;exact BZ a.2 c b e hm l m
  |false=>rw[o] at a;exact BZ a c b e hm l m
theorem Zh{C:eb}(k0:eg K.P C.cD){H:Nat->Option E}{N:List cM}(hH: ∀k e,H k=aa e->s.H k=aa e)
  (A:s.get x=a) (hy:s.get y=v) (h:Hy C t H a v M=aa (e,mC,N)) (B:cI mC):ef K ⟨aj,.store t x y,ty,pos,af,g⟩ s (e.app s):=by
 unfold Hy at h;split at h
 ·rename_i i id gen sz k D r M T;obtain⟨amc,U,_⟩:=k0 _ _ T;split at h
  ·rename_i Y m F o et hh;split at h
   ·rename_i l c iI;cases h;simp only[cx] at c;obtain⟨rfl,ep,b8,hq⟩:=B;obtain⟨pb,G⟩:=cI.app hq;obtain⟨dd,cB⟩:=xz iI pb;refine Yy x y _ _ _ Y m o r v et A hy c.1 c.2.1 (hH _ _ hh) ep U (m0 c.2.2.1) (by simpa[Nat.blt_eq] using c.2.2.2.2) b8 (fg c.2.2.2.1) (BX G) λj hj=>?_;have hj':=bu (show j<(l.map (·.2)).length by simp[dd];exact hj)
    grind
   cases h
  cases h
 ·rename_i i id gen sz k D q n r M T;obtain⟨amc,U,_⟩:=k0 _ _ T;split at h
  ·rename_i Y m F o et hh;split at h
   ·rename_i l c iI;cases h;simp only[cx] at c;obtain⟨rfl,ep,b8,hq⟩:=B;obtain⟨pb,G⟩:=cI.app hq;obtain⟨G,wM⟩:=cI.app G;obtain⟨wM,Ti⟩:=cI.app wM;obtain⟨dd,cB⟩:=xz iI pb;have L:=m0 c.2.2.1;have Q: ∀x,x∈(et.drop q.toNat).take n->x∈et:=λx A=>fN (gP A);have z: ∀x,x∈et->x∈et.take q.toNat\/x∈(et.drop q.toNat).take n\/x∈(et.drop q.toNat).drop n:=λx A=>by
     rw[<-qw q.toNat et,eY] at A;rcases A with h|h
     ·exact .inl h
     rw[<-qw n (et.drop q.toNat),eY] at h
     grind
    refine LZ x y _ _ _ Y m o r v et A hy c.1 c.2.1 (hH _ _ hh) ep U L (by simpa[Nat.blt_eq] using c.2.2.2.2) b8 (fg c.2.2.2.1) (λf u I hm=>?_) (λf u R hm=>?_) λj hj=>?_
    ·rcases eY.1 hm with b|b
     ·exact⟨I,gP b,λp=>bs p.1 (BZ wM f u I b p.2.1 p.2.2),λ_=>rfl⟩
     rcases eY.1 b with b|b
     ·obtain⟨R,aL,a2,a3⟩:=G4 b;refine⟨R,Q _ aL,λp=>?_,λp=>a3 λW=>p ⟨BX G f u R aL W.1 O,W.1,O⟩⟩
      grind
     exact⟨I,fN (fN b),λp=>bs p.1 (BZ Ti f u I b p.2.1 p.2.2),λ_=>rfl⟩
    ·rcases z _ hm with b|b|b
     ·exact⟨R,eY.2 (.inl b)⟩
     ·obtain⟨v1,h2⟩:=Hj (off:=D) (vs:=v.cs) b
      grind
     exact⟨R,eY.2 (.inr (eY.2 (.inr b)))⟩
    have hj':=bu (show j<(l.map (·.2)).length by simp[dd];exact hj)
    grind
   cases h
  cases h
 cases h
theorem ef.akO{K:Ctx}{s b c:S}(h:ef K o s b)(p:b.le K c):ef K o s c:=
 λβ a w next Q q r=>h β a w next Q q λi m n k=>let ⟨e,l⟩:=p i m n k;r e m n l
theorem OG{z:List T}: ∀{l:List (Nat×Nat)} {j m:Nat},yn z l=ab->vm l j=aa m->z[j]? =aa .fp
 |p::l,j,m,h,a=>by
  simp only[yn,cx] at h;simp only[vm] at a;cases b:cc p.1 j with
  |true=>
   rw[<-m0 b];have c:=h.1;split at c
   ·assumption
   cases c
  |false=>rw[b] at a;exact OG h.2 a
theorem abv{K:Ctx}{s:S}(k:Nat){L:Nat}{z:List T}(e:List dM)(m:Nat)(B:s.H k=aa (.arr t gen L (dE n z)))(r:(aR e m).ty=t)(D:(aR e m).size=L)
  (I:yn z (aR e m).bm=ab):s.le K {s with H:=aZ s.H k (aa (.aN e m gen (dE n (z.map jh)) []))}:=by
 intro β a w h;refine⟨_,h.drop k (.aN e m gen (dE n (z.map jh)) []) (by rw[B];simp) ?_⟩;have l:=(h.heap k _ B).2;subst r;subst D;refine⟨l.1,?_⟩;have o: ∀b,own K (β.drop k) (aZ s.H k (aa (.aN e m gen (dE n (z.map jh)) []))) b->own K β s.H b:=by
  rintro b (M|⟨id,r,D⟩)
  ·exact .inl M
  refine .inr ⟨id,λF=>?_,og D⟩;by_cases W:id=k
  ·subst W;rw[B] at F;cases F
  rw[cg _ _ _ _ W] at r;exact r F
 rcases l.2 with ⟨aL,a2⟩|⟨b,N,aL,a2,a3,a4,a5⟩
 ·have:n=0:=by simpa using a2
  subst this;exact .inl ⟨aL,rfl,λc p=>p.1 rfl⟩
 refine .inr ⟨b,N,λ_ _ _=>False,aL,a2,by simpa using a3,λG P=>?_,λi j G x u A f U=>Cell.of ?_,λ_ _ _ h=>h.elim,λ_ _ _ _ _ h=>h.elim,λc=>⟨λp=>bs rfl p.1,λ⟨_,_,p⟩=>p.elim⟩⟩
 ·obtain⟨V,rfl⟩:=xb.1 P
  grind
 rw[ui] at A;split at A
 ·rename_i Q;cases A;rw[eQ] at f;obtain⟨y,v,rfl⟩:=Option.map_eq_some_iff.1 f;have q:=(a5 i j z y u (by rw[ui,bb Q]) v U).mono (Ext.refl _ _) λb _=>o b;cases R:(aR e m).ej j with
  |none=>exact .fs _ _ _ q.zx (λ_ h=>h)
  |some Y=>
   have:=OG I R;rw[v] at this;cases this;cases q;exact .nil _ _ λ_ h=>h
 cases A
theorem ab6{C:eb}(k0:eg K.P C.cD){w:V}{N:List cM}(L: ∀k,u k=ak->s.u k=ak)(cO:ki K.nt d=ab)
  (hx:s.get x=v) (hy:s.get y=w) (h:IH C d t u v w M=aa (e,mC,N)) (Q:cI mC):ef K ⟨d,.makeSlice t x y,ty,pos,af,g⟩ s (e.app s):=by
 unfold IH at h;split at h
 ·cases h
 rename_i i l;split at h
 ·rename_i o T;have fB:K.P.underlying t=aa (.slice o):=(k0 _ _ l).iP.2.2.2 o T;split at h
  ·cases h
  rename_i j W;obtain⟨rA,he,_⟩:=k0 _ _ W;split at h
  ·rename_i n m k R M p r;split at h
   ·rename_i U f Y z;cases h;obtain⟨hnm,A,B,_⟩:=Q;obtain⟨nT,aiG,rfl⟩:=kq A;have D:m=n:=O
    subst D;simp only[cx] at z;have c:=fg z.2;have I:m.toNat*j.bytes<=1000000000*200000:=oo O c;have bS:=l7 B;have W:=QP (K:=K) (s:=s) (d:=d) (ty:=ty) (pos:=pos) (af:=af) (g:=g) k (L _ U) x y o m.toNat p (hA cO) fB he (by rw[hx,<-bS]) (by rw[hy,<-bS]) (pe r) f Y z.1 O O;refine W.Lb λβ a w b8=>?_;have hk:((s.new k (.arr o 1 j.size (dE m.toNat p))).put d (.bo k 1 j.size 0 m.toNat)).H k=aa (.arr o 1 j.size (dE m.toNat p)):=by
     cases d<;>exact cd _ _ _
    have y3:=b8.Tl k hk λX=>aeh;rw[se,EX]
    have: ∀F G:E,({((s.new k F).put d (.bo k 1 j.size 0 m.toNat)) with H:=aZ ((s.new k F).put d (.bo k 1 j.size 0 m.toNat)).H k (aa G)}:S)=(s.new k G).put d (.bo k 1 j.size 0 m.toNat):=by
     intro F G;have L: ∀a b:Option E,aZ (aZ s.H k a) k b=aZ s.H k b:=by
      intro a b;funext i;by_cases l:i=k
      ·subst l;rw[cd,cd]
      rw[cg _ _ _ _ l,cg _ _ _ _ l,cg _ _ _ _ l]
     cases d<;>simp only[S.put,S.new,L]
    grind
   cases h
  ·rename_i n m k lF Γ q R M p r;split at h
   ·rename_i U f Y z;cases h;obtain⟨ai9,lA,hnm,A,B,_⟩:=Q;obtain⟨nT,aiG,rfl⟩:=kq A;have D:m=n:=O
    subst D;simp only[cx] at f z;have c:=fg z.2;have I:m.toNat*j.bytes<=1000000000*200000:=oo O c;have bS:=l7 B;have W:=QP (K:=K) (s:=s) (d:=d) (ty:=ty) (pos:=pos) (af:=af) (g:=g) k (L _ U) x y o m.toNat p (hA cO) fB he (by rw[hx,<-bS]) (by rw[hy,<-bS]) (pe r) f.1 Y z.1 O O;have hk:((s.new k (.arr o 1 j.size (dE m.toNat p))).put d (.bo k 1 j.size 0 m.toNat)).H k=aa (.arr o 1 j.size (dE m.toNat p)):=by
     cases d<;>exact cd _ _ _
    have cC:=abv (K:=K) k Γ q hk ai9 lA f.2;rw[se,EX]
    have: ∀F G:E,({((s.new k F).put d (.bo k 1 j.size 0 m.toNat)) with H:=aZ ((s.new k F).put d (.bo k 1 j.size 0 m.toNat)).H k (aa G)}:S)=(s.new k G).put d (.bo k 1 j.size 0 m.toNat):=by
     intro F G;have L: ∀a b:Option E,aZ (aZ s.H k a) k b=aZ s.H k b:=by
      intro a b;funext i;by_cases l:i=k
      ·subst l;rw[cd,cd]
      rw[cg _ _ _ _ l,cg _ _ _ _ l,cg _ _ _ _ l]
     cases d<;>simp only[S.put,S.new,L]
    rw[this] at cC;exact W.akO cC
   cases h
  cases h
 cases h
theorem ZW{C:eb}(B:eg K.P C.cD)(_hn0:C.dZ=K.dZ){D:TypeId}{H:Nat->Option E}{w:V}{n:List cM}{G:List dN}(u: ∀k e,H k=aa e->s.H k=aa e)(I:ki K.nt d=ab)
  (M:s.get x=v) (N:s.get y=w) (h:HB C d t D H v w F=aa (e,G,n)) (o:cI G):ef K ⟨d,.call {callee:= .builtin .append,args:= #[x,y],argTypes:= #[t,D]},ty,pos,af,g⟩ s (e.app s):=by
 unfold HB at h;split at h
 ·cases h
 rename_i i T;split at h
 ·rename_i L p;have U:K.P.underlying t=aa (.slice L):=(B _ _ T).iP.2.2.2 L p;split at h
  ·cases h
  rename_i j Q;obtain⟨rA,Y,_⟩:=B _ _ Q;split at h
  ·rename_i k gen W off len a R F hw;split at h
   ·rename_i e' c q b hh;split at h
    ·rename_i h1 m r;cases h;obtain⟨rfl,rfl,rfl,rfl,l,z,A,_⟩:=o;obtain⟨a1,rfl⟩:=uB l;simp only[cx] at m r;have e1:=m0 r.1;have e2:=m0 r.2;have mP:=m0 h1;subst e1;subst e2;subst mP;have f:(b.length+a.length)*j.bytes<=1000000000*140000:=oo a1 (fg m.2.2);have Q:=adF (K:=K) (s:=s) (d:=d) (ty:=ty) (pos:=pos) (af:=af) (g:=g) (gen:=c) (size:=j.size) k x y e' b a (hA I) M (by rw[N,<-hw];exact uV w) (u _ _ hh) U Y m.1 m.2.1 z A O O;rw[dm]
     have: ∀v e,df.app ⟨fu d v,[(k,aa e)],[]⟩ s=({s with H:=aZ s.H k (aa e)}:S).put d v:=by intro v e;cases d<;>rfl
     grind
    cases h
   cases h
  cases h
 cases h
theorem Yv{C:eb}(k0:eg K.P C.cD){mu:TypeId}{H:Nat->Option E}{w:V}(G: ∀k e,H k=aa e->s.H k=aa e)(f:ki K.nt d=ab)
  (u:s.get x=v) (I:s.get y=w) (h:GW C d t mu H v w Q=aa (e,mC,W)) (o:cI mC):ef K ⟨d,.call {callee:= .builtin .append,args:= #[x,y],argTypes:= #[t,mu]},ty,pos,af,g⟩ s (e.app s):=by
 unfold GW at h;split at h
 ·cases h
 rename_i i aJ;split at h
 ·rename_i M N;have T:K.P.underlying t=aa (.slice M):=(k0 _ _ aJ).iP.2.2.2 M N;split at h
  ·cases h
  rename_i j U;obtain⟨rA,Y,_⟩:=k0 _ _ U;split at h
  ·rename_i k gen r off len ez g3 z3 amq n3 R Q;split at h
   ·rename_i Γ m b a akT m3 ahF dZ c ai1 z A;split at h
    ·rename_i l n L;cases h;obtain⟨rfl,rfl,rfl,rfl,vM,nQ,rfl,rfl,h3,B,Kj,y3,_⟩:=o;obtain⟨a1,rfl⟩:=uB B;simp only[cx] at l n L;have D:=m0 l.1;have F:=m0 l.2;have mP:=m0 L.1;subst D;subst F;subst mP;have hmul:(a.length+(dZ::c).length)*j.bytes<=1000000000*140000:=oo a1 (fg n.2.2);have U:=acv (K:=K) (s:=s) (d:=d) (ty:=ty) (pos:=pos) (af:=af) (g:=g) (gen:=b) (size:=j.size) k ez ahF (c.length+1) x y M Γ akT m m3 a (dZ::c) ai1 (hA f) u I (G _ _ z) (G _ _ A) h3 rfl T Y n.1 vM nQ Kj y3 (Nat.succ_pos _) L.2.1 L.2.2 O O;rw[dm]
     have: ∀v e,df.app ⟨fu d v,[(k,aa e)],[]⟩ s=({s with H:=aZ s.H k (aa e)}:S).put d v:=by intro v e;cases d<;>rfl
     grind
    cases h
   ·rename_i e' b p a JG z A;split at h
    ·rename_i l n;cases h;obtain⟨rfl,rfl,rfl,rfl,q,hl1,tl,rfl,_⟩:=o;simp only[cx] at l n;have D:=m0 l.1;have F:=m0 l.2;have yJ:=m0 n.1;have pS:=m0 n.2.1;have hp:0<j.size:=by simpa[Nat.blt_eq] using n.2.2
     subst D;subst F;subst yJ;subst pS;subst q;have U:=aab (K:=K) (s:=s) (d:=d) (ty:=ty) (pos:=pos) (af:=af) (g:=g) _ _ _ _ x y _ _ (hA f) u I (G _ _ z) T Y hp hl1 tl
     have: ∀v e,df.app ⟨fu d v,[(ez,aa e)],[]⟩ s=({s with H:=aZ s.H ez (aa e)}:S).put d v:=by intro v e;cases d<;>rfl
     grind
    cases h
   cases h
  ·rename_i k gen r off len Q;split at h
   ·rename_i e' b p a z;split at h
    ·rename_i l n;cases h;obtain⟨rfl,rfl,q,_⟩:=o;simp only[cx] at l;have D:=m0 l.1;have F:=m0 n;have hp:0<j.size:=by simpa[Nat.blt_eq] using l.2
     subst D;subst F;subst q;rw[pj];exact Zk (K:=K) (s:=s) (d:=d) (ty:=ty) (pos:=pos) (af:=af) (g:=g) _ _ x y _ _ _ (hA f) u (dO.of_eq I) (G _ _ z) T Y hp
    cases h
   cases h
  cases h
 cases h
theorem agX{x:T}(h:z7 v=aa x):v= .t x:=by
 cases v<;>simp[z7] at h
 grind
theorem MQ{d:dM}: ∀{j:Nat} {a:List V} {r:List T} {c:List (Nat×Nat×V)},xJ d j a=aa (r,c)->r.length=a.length/\
  (∀i b v,(i,b,v)∈c->i=0/\ ∃k,b=j+k/\a[k]? =aa v)/\(∀(k:Nat) x,r[k]? =aa x->(∃v,(0,j+k,v)∈c)\/(d.ej (j+k)=aj/\a[k]? =aa (.t x)))
 |j,[],r,c,h=>by cases h;exact⟨rfl,λ_ _ _ h=>bs h List.not_mem_nil,λk x h=>by simp at h⟩
 |j,v::a,r,c,h=>by
  simp only[xJ] at h;split at h
  ·cases h
  rename_i G n B;obtain⟨aL,a2,a3⟩:=MQ B;have y: ∀i b dC,(i,b,dC)∈n->i=0/\ ∃k,b=j+k/\(v::a)[k]? =aa dC:=λi b dC hm=>by
   obtain⟨D,k,L,F⟩:=a2 i b dC hm;exact⟨D,k+1,O,by simpa using F⟩
  split at h
  ·rename_i Q z;cases A:v.one with
   |false=>rw[A] at h;cases h
   |true=>
    rw[A] at h;cases h;refine⟨by simp[aL],λi b dC hm=>?_,λk x l=>?_⟩
    ·rcases d'.1 hm with e|hm
     ·cases e;exact⟨rfl,0,rfl,rfl⟩
     exact y i b dC hm
    cases k with
    |zero=>exact .inl ⟨v,ff⟩
    |succ k=>
     have:=a3 k x (by simpa using l);rw[show j+1+k=j+(k+1) by omega] at this;rcases this with ⟨dC,o⟩|⟨m,p⟩
     ·exact .inl ⟨dC,eZ _ o⟩
     exact .inr ⟨m,by simpa using p⟩
  rename_i z;split at h
  ·rename_i R q;cases h;refine⟨by simp[aL],y,λk x l=>?_⟩;cases k with
   |zero=>simp at l;subst l;exact .inr ⟨z,by simp[agX q]⟩
   |succ k=>
    have:=a3 k x (by simpa using l);rw[show j+1+k=j+(k+1) by omega] at this;rcases this with m|⟨m,p⟩
    ·exact .inl m
    exact .inr ⟨m,by simpa using p⟩
  cases h
theorem agA{u:TypeDesc}{p:Nat}(k:Nat)(hk:s.u k=ak)(n:Array (Nat×Operand))(e:TypeId)(l U:List V)(q:List dM)(m:Nat)(r:List T)(N:List (Nat×Nat×V))(cO: ∀i,d=aa i->dw i K.nt=ab)(A:fG ((n.toList.map (·.2)).map s.get) l)
  (hu:K.P.underlying t=aa (.slice e)) (he:cr K.P e u z size p) (B:cc n.toList.length l.length=ab) (hp:dw 0 size=ab) (D:dD (1*size) 16777216=ab)
  (iI:lg (λi=>aa (i*size,size)) (dE (1*size) .dp) ((n.toList.map (·.1)).zip l)=aa U) (Y:xJ (aR q m) 0 U=aa (r,N)) (hcl:U.length=size) (vM:(aR q m).size=size) (nQ:(aR q m).ty=e):
  ef K ⟨d,.buildSlice t 1 n,ty,pos,af,g⟩ s ((s.new k (.aN q m 1 [r] N)).put d (.bo k 1 size 0 1)):=by
 have aiP:0<size:=by simpa[Nat.blt_eq] using hp
 obtain⟨zB,Tg,al'⟩:=MQ Y;intro β a w next Q b8 hkk
 have J1:dx β w (own K β s.H) l ((n.toList.map (·.2)).map a.eval):=(b8.oX _).le A;have hz2:=w1 a.eval n.toList;obtain⟨b,h1,h2⟩:=uz (β:=β) (w:=w) (X:=own K β s.H) (λi=>aa (i*size,size)) (n.toList.map (·.1)) l _ (dE (1*size) .dp)
  ((Array.range (1*size)).map ((if 1*size=0 then #[] else z.cells)[· %(if 1*size=0 then #[] else z.cells).size]!)) _ (BW _ _ _ _ _ a7) J1 (by simpa using m0 B) iI
 have F:(execOp a.eval ⟨d,.buildSlice t 1 n,ty,pos,af,g⟩).run K.P w= .ok (.value (.slice (aa ⟨w.heap.size,0,aj⟩) 1 1)) (w.alloc (.cells b e)):=by
  have G:(n.toList.map λx=>match x with|(i,x)=>(i,a.eval x))=(n.toList.map (·.1)).zip ((n.toList.map (·.2)).map a.eval):=by rw[<-hz2]
  have a1: ¬(1*size>2^24):=by have:=fg D;omega
  have h0: ¬1*size=0:=O
  simp only[execOp,Instr.buildSlice,fo,run_underlying hu,fc,he.run_sizeOf,a1,if_false,Array.toList_map];simp only[h0,if_false] at h1;simp only[h0,if_false,Sem.run_pure,fo,he.t',fc];rw[G,h1];rfl
 unfold Oper.wp;rw[F];have o:b.size=size:=by
  have h:=h2.1
  grind
 have L:=b8.KJ k 1 hk b e (.aN q m 1 [r] N) (λβ' X' w' hw tp R mg=>⟨da _,Or.inr ⟨w.heap.size,b,λ_ _ _=>False,tp,by subst hw;rw[nQ];exact jQ _ _,by rw[o,vM];simp,λrow W=>by rw[lO.1 W,zB,hcl,vM],λi j row x y aL a2 a3=>by
  have aJ:=(b5.1 aL).1;have J':i=0:=by simpa using aJ
  subst J';simp at aL;subst aL;rw[gQ,dI] at a3;refine⟨λv A=>⟨?_,λ_ h=>h⟩,λcK=>?_⟩
  ·obtain⟨_,cE,f,G⟩:=Tg _ _ _ A;rw[dI] at f;subst f;exact R _ _ (h2.2 _ _ y G (by simpa using a3))
  rcases al' j x a2 with ⟨v,A⟩|⟨f,G⟩
  ·rw[dI] at A;exact bs A (cK v)
  rw[dI] at f;rw[f];have h6:=R _ _ (h2.2 _ _ y G (by simpa using a3));cases h6 with|t _ _ h=>exact .fs _ _ _ h λ_ h=>h,λ_ _ _ h=>h.elim,λ_ _ _ _ _ h=>h.elim,λc=>⟨λh=>bs h (mg c),λ⟨_,_,h⟩=>h.elim⟩⟩⟩)
 have I:(w.alloc (.cells b e)).heap.size=w.heap.size+1:=World.size_alloc ..;have hU:(w.alloc (.cells b e)).shape? w.heap.size=aa (e,b.size):=by unfold gj;rw[jQ]
 have M:bt (β.put k (aa (aa w.heap.size,1))) (w.alloc (.cells b e)) (own K (β.put k (aa (aa w.heap.size,1))) (s.new k (.aN q m 1 [r] N)).H) (.bo k 1 size 0 1)
   (.slice (aa ⟨w.heap.size,0*size,aj⟩) 1 1):= .bo k 1 size 0 1 1 w.heap.size b.size e (da _) (cd _ _ _) (I▸pt _) hU (by rw[o];omega) (da _) (by unfold maxLen;omega)
 rw[gQ] at M;exact hkk _ _ _ (L.put d cO M)
theorem Qt{n j:Nat}{v:V}: ∀{a:List V} {i:Nat},(n,j,v)∈qV i a->j=0/\ ∃k,n=i+k/\a[k]? =aa v
 |x::a,i,h=>by
  simp only[qV] at h;rcases d'.1 h with h|h
  ·cases h;exact⟨rfl,0,rfl,rfl⟩
  obtain⟨e,k,c,b⟩:=Qt h;exact⟨e,k+1,O,by simpa using b⟩
theorem Qs{v:V}: ∀{vs:List V} {i k:Nat},vs[k]? =aa v->(i+k,0,v)∈qV i vs
 |x::vs,i,0,h=>by
  simp at h;subst h;exact ff
 |x::vs,i,k+1,h=>by have:=Qs (i:=i+1) (k:=k) (vs:=vs) (by simpa using h);rw[show i+1+k=i+(k+1) by omega] at this;exact eZ _ this
theorem agB{u:TypeDesc}{b A:Nat}(k:Nat)(hk:s.u k=ak)(n:Nat)(p:Array (Nat×Operand))(e:TypeId)(o B:List V)(D:List dM)(m:Nat)(cO: ∀i,d=aa i->dw i K.nt=ab)(N:fG ((p.toList.map (·.2)).map s.get) o)
  (hu:K.P.underlying t=aa (.slice e)) (he:cr K.P e u z b A) (F:cc p.toList.length o.length=ab) (cK:dw 0 n=ab) (T:b=1) (G:dD (n*b) 16777216=ab)
  (iI:lg (λi=>aa (i*b,b)) (dE (n*b) .dp) ((p.toList.map (·.1)).zip o)=aa B) (hcl:B.length=n) (U:(aR D m).size=1) (nQ:(aR D m).ty=e):
  ef K ⟨d,.buildSlice t n p,ty,pos,af,g⟩ s ((s.new k (.aN D m 1 (dE n [.bE []]) (qV 0 B))).put d (.bo k 1 1 0 n)):=by
 subst T;have L:0<n:=by simpa[Nat.blt_eq] using cK
 intro β a w next Q b8 Y
 have J1:dx β w (own K β s.H) o ((p.toList.map (·.2)).map a.eval):=(b8.oX _).le N;have hz2:=w1 a.eval p.toList;obtain⟨l,h1,h2⟩:=uz (β:=β) (w:=w) (X:=own K β s.H) (λi=>aa (i*1,1)) (p.toList.map (·.1)) o _ (dE (n*1) .dp)
  ((Array.range (n*1)).map ((if n*1=0 then #[] else z.cells)[· %(if n*1=0 then #[] else z.cells).size]!)) _ (BW _ _ _ _ _ a7) J1 (by simpa using m0 F) iI
 have ak8:=fg G;have R:(execOp a.eval ⟨d,.buildSlice t n p,ty,pos,af,g⟩).run K.P w= .ok (.value (.slice (aa ⟨w.heap.size,0,aj⟩) n n)) (w.alloc (.cells l e)):=by
  have e2:(p.toList.map λx=>match x with|(i,x)=>(i,a.eval x))=(p.toList.map (·.1)).zip ((p.toList.map (·.2)).map a.eval):=by rw[<-hz2]
  have a1: ¬(n*1>2^24):=O
  have h0: ¬n*1=0:=O
  simp only[execOp,Instr.buildSlice,fo,run_underlying hu,fc,he.run_sizeOf,a1,if_false,Array.toList_map];simp only[h0,if_false] at h1;simp only[h0,if_false,Sem.run_pure,fo,he.t',fc];rw[e2,h1];rfl
 unfold Oper.wp;rw[R];have q:l.size=n:=by
  have h:=h2.1;rw[pr] at h;omega
 have W:=b8.KJ k 1 hk l e (.aN D m 1 (dE n [.bE []]) (qV 0 B)) (λβ' X' w' hw L lz mg=>⟨da _,Or.inr ⟨w.heap.size,l,λ_ _ _=>False,L,by subst hw;rw[nQ];exact jQ _ _,by rw[q,U];simp,λf r=>by rw[(xb.1 r).2,U];rfl,λi j f x y aL a2 a3=>by
  have aJ:=(b5.1 aL).1;rw[EX] at aJ;have r:f=[.bE []]:=(xb.1 (bT aL)).2;subst r;have hj0:j=0:=by
   have:=(b5.1 a2).1;simpa using this
  subst hj0;rw[U,Nat.mul_one,r0] at a3;refine⟨λv N=>⟨?_,λ_ h=>h⟩,λtq=>?_⟩
  ·obtain⟨_,cE,e1,e2⟩:=Qt N;rw[dI] at e1;subst e1;exact lz _ _ (h2.2 _ _ y e2 (by simpa using a3))
  have bS:=bu (O:i<B.length)
  have:=Qs (i:=0) bS;rw[dI] at this;exact bs this (tq _),λ_ _ _ h=>h.elim,λ_ _ _ _ _ h=>h.elim,λc=>⟨λh=>bs h (mg c),λ⟨_,_,h⟩=>h.elim⟩⟩⟩)
 have I:(w.alloc (.cells l e)).heap.size=w.heap.size+1:=World.size_alloc ..;have hU:(w.alloc (.cells l e)).shape? w.heap.size=aa (e,l.size):=by unfold gj;rw[jQ]
 have M:bt (β.put k (aa (aa w.heap.size,1))) (w.alloc (.cells l e)) (own K (β.put k (aa (aa w.heap.size,1))) (s.new k (.aN D m 1 (dE n [.bE []]) (qV 0 B))).H) (.bo k 1 1 0 n)
   (.slice (aa ⟨w.heap.size,0*1,aj⟩) n n):= .bo k 1 1 0 n n w.heap.size l.size e (da _) (cd _ _ _) (I▸pt _) hU (by rw[q];omega) (da _) (by unfold maxLen;omega)
 rw[gQ] at M;exact Y _ _ _ (W.put d cO M)
theorem U2{u:TypeDesc}{D:Nat}(k:Nat)(hk:s.u k=ak)(n:Nat)(p:Array (Nat×Operand))(e:TypeId)(o:List V)(c:List (List T))(cO: ∀i,d=aa i->dw i K.nt=ab)(bZ:fG ((p.toList.map (·.2)).map s.get) o)
  (hu:K.P.underlying t=aa (.slice e)) (he:cr K.P e u z size D) (L:cc p.toList.length o.length=ab)
  (cK:c.length=n) (hp:dw 0 size=ab) (F: ∀l,l∈c->l.length=size) (B:dD (n*size) 16777216=ab)
  (iI:lg (λi=>aa (i*size,size)) (dE (n*size) .dp) ((p.toList.map (·.1)).zip o)=aa (c.flatten.map .t)):
  ef K ⟨d,.buildSlice t n p,ty,pos,af,g⟩ s ((s.new k (.arr e 1 size c)).put d (.bo k 1 size 0 c.length)):=by
 subst cK;have aiP:0<size:=by simpa[Nat.blt_eq] using hp
 intro β a w next Q b8 U
 have Y:dx β w (own K β s.H) o ((p.toList.map (·.2)).map a.eval):=(b8.oX _).le bZ;have hz2:=w1 a.eval p.toList;obtain⟨m,A,G⟩:=uz (β:=β) (w:=w) (X:=own K β s.H) (λi=>aa (i*size,size)) (p.toList.map (·.1)) o _ (dE (c.length*size) .dp)
  ((Array.range (c.length*size)).map ((if c.length*size=0 then #[] else z.cells)[· %(if c.length*size=0 then #[] else z.cells).size]!)) _ (BW _ _ _ _ _ a7) Y (by simpa using m0 L) iI
 have R:(execOp a.eval ⟨d,.buildSlice t c.length p,ty,pos,af,g⟩).run K.P w= .ok (.value (.slice (aa ⟨w.heap.size,0,aj⟩) c.length c.length)) (w.alloc (.cells m e)):=by
  have e2:(p.toList.map λx=>match x with|(i,x)=>(i,a.eval x))=(p.toList.map (·.1)).zip ((p.toList.map (·.2)).map a.eval):=by rw[<-hz2]
  have a1: ¬(c.length*size>2^24):=by have:=fg B;omega
  simp only[execOp,Instr.buildSlice,fo,run_underlying hu,fc,he.run_sizeOf,a1,if_false,Array.toList_map];by_cases N:c.length*size=0
  ·simp only[N,if_true] at A;simp only[N,if_true,Sem.run_pure,fo,fc];rw[e2,A];rfl
  simp only[N,if_false] at A;simp only[N,if_false,Sem.run_pure,fo,he.t',fc];rw[e2,A];rfl
 unfold Oper.wp;rw[R];have q:m.size=c.flatten.length:=by
  have h:=G.1
  grind
 have W:c.flatten.length=c.length*size:=by
  rw[List.length_flatten]
  have:c.map List.length=dE c.length size:=List.eq_replicate_iff.2 ⟨a7,λb a1=>by obtain⟨r,b8,rfl⟩:=eK.1 a1;exact F r b8⟩;rw[this];simp
 have f: ∀(c:List (List T)),(∀l,l∈c->l.length=size)-> ∀(i j:Nat) (l:List T) (x:T),c[i]? =aa l->l[j]? =aa x->c.flatten[i*size+j]? =aa x:=by
  intro c;induction c with
  |nil=>intro _ i j l x h _;simp at h
  |cons r c mU=>
   intro hs i j l x A G;have b8:=hs r a7;rw[List.flatten_cons];cases i with
   |zero=>
    simp at A;subst A
    have:=(b5.1 G).1;rw[gQ,dI,jI this];exact G
   |succ i=>
    simp at A;rw[jr (by rw[b8,ed];omega)];rw[show(i+1)*size+j-r.length=i*size+j by rw[b8,ed];omega];exact mU (λl h=>hs l (by simp[h])) i j l x A G
 have v:=b8.new k 1 hk m e (.arr e 1 size c) (λβ' X' w' hw tp lz=>⟨da _,Or.inr ⟨w.heap.size,m,tp,by subst hw;exact jQ _ _,by rw[q,W];exact da _,F,λi j l x y aL a2 a3=>by
  have h5:=f c F i j l x aL a2;have h6:=G.2 (i*size+j) (.t x) y (by rw[eQ,h5];rfl) (by simpa using a3);have mR:=lz _ _ h6;cases mR with|t _ _ h=>exact h⟩⟩)
 have I:(w.alloc (.cells m e)).heap.size=w.heap.size+1:=World.size_alloc ..;have hU:(w.alloc (.cells m e)).shape? w.heap.size=aa (e,m.size):=by unfold gj;rw[jQ]
 have M:bt (β.put k (aa (aa w.heap.size,1))) (w.alloc (.cells m e)) (own K (β.put k (aa (aa w.heap.size,1))) (s.new k (.arr e 1 size c)).H) (.bo k 1 size 0 c.length)
   (.slice (aa ⟨w.heap.size,0*size,aj⟩) c.length c.length):= .bo k 1 size 0 c.length c.length w.heap.size m.size e (da _) (cd _ _ _) (I▸pt _) hU (by rw[q,W];simp) (da _)
    (by
     have a1:=fg B;unfold maxLen
     have:c.length*1<=c.length*size:=Nat.mul_le_mul_left _ O;omega)
 rw[gQ] at M;exact U _ _ _ (v.put d cO M)
theorem aei{C:eb}(f:eg K.P C.cD){m:Array (Nat×Operand)}{a:List V}{v G:List cM}{I:List dN}(M: ∀k,u k=ak->s.u k=ak)(B:ki K.nt d=ab)
  (L:a=(m.toList.map (·.2)).map s.get) (h:Ji C d t n (m.toList.map (·.1)) u a v=aa (e,I,G)) (Q:cI I):ef K ⟨d,.buildSlice t n m,ty,pos,af,g⟩ s (e.app s):=by
 unfold Ji at h;split at h
 ·cases h
 rename_i i N;split at h
 ·rename_i p R;have D:K.P.underlying t=aa (.slice p):=(f _ _ N).iP.2.2.2 p R;split at h
  ·cases h
  rename_i j T;obtain⟨rA,F,_⟩:=f _ _ T;split at h
  ·rename_i k v W;split at h
   ·rename_i o;cases h
    have:m= #[]:=by
     have:m.toList=[]:=by simpa using W
     grind
    subst this;rw[se];exact adE k (M _ o) p (hA B) D F
   cases h
  ·split at h
   ·cases h
   rename_i cs c;split at h
   ·cases h
   rename_i q l;split at h
   ·rename_i U o r x Y;cases h;have b:=m0 o;obtain⟨y,z,A⟩:=Co j.size _ q b;rw[se];refine U2 _ (M _ U) _ m p (hD a) _ (hA B) (by rw[L];exact nk _) D F (by rw[tN];simpa using r) y Y z x (by rw[c,A,pe l])
   cases h
  ·split at h
   ·cases h
   rename_i cs c;split at h
   ·cases h
   rename_i q l;split at h
   ·rename_i o r x;cases h;have b:=m0 o;obtain⟨y,z,A⟩:=Co j.size _ q b;rw[pj];rw[<-Q.1];refine Ln (vals:=hD a) (hA B) ?_ (LV _ m p (hD a) _ D F ?_ (by simp[y]) z x (by rw[c,A,pe l]))
    ·rw[L];simp only[Op.operands];exact nk _
    rw[tN];simpa using r
   cases h
  ·split at h
   ·cases h
   rename_i cs c;split at h
   ·cases h
   rename_i q l;split at h
   ·rename_i o r x;cases h;have b:=m0 o;obtain⟨y,z,A⟩:=Co j.size _ q b;rw[pj];refine Ln (vals:=hD a) (hA B) ?_ (LV _ m p (hD a) _ D F ?_ (by simp[y]) z x (by rw[c,A,pe l]))
    ·rw[L];simp only[Op.operands];exact nk _
    rw[tN];simpa using r
   cases h
  cases h
 cases h
theorem ab7{C:eb}(G:eg K.P C.cD){a:Array (Nat×Operand)}{Y:List V}(L: ∀k,u k=ak->s.u k=ak)(Q:ki K.nt d=ab)
  (R:Y=(a.toList.map (·.2)).map s.get) (h:II C d t n (a.toList.map (·.1)) u Y b=aa (e,c,l)):ef K ⟨d,.buildSlice t n a,ty,pos,af,g⟩ s (e.app s):=by
 unfold II at h;split at h
 ·cases h
 rename_i i v;split at h
 ·rename_i x z;have W:K.P.underlying t=aa (.slice x):=(G _ _ v).iP.2.2.2 x z;split at h
  ·cases h
  rename_i j I;obtain⟨T,f,_⟩:=G _ _ I;split at h
  ·rename_i k y m b;split at h
   ·cases h
   rename_i cs p;split at h
   ·cases h
   rename_i r M A;split at h
   ·rename_i B q o D F;cases h;simp only[cx] at q o;rw[se];exact agA k (L _ B) a x (vq ((aR y m).ej 0) Y) cs y m r M (hA Q) (by rw[R];exact afV _ _) W f (by rw[ZD];simpa using o.1) F D p A (m0 q.1) (m0 q.2) (m0 o.2)
   cases h
  ·rename_i k y m b _;split at h
   ·cases h
   rename_i cs p;split at h
   ·rename_i B q o D F;cases h;simp only[cx] at q o;have N:=m0 q.1;rw[se];exact agB k (L _ B) _ a x (hD Y) cs y m (hA Q) (by rw[R];exact nk _) W f (by rw[tN];simpa using o.1) F N D p (m0 q.2.1) (m0 o.2.2) (m0 o.2.1)
   cases h
  cases h
 cases h
theorem aca{C:eb}(x:C.P=K.P)(y:C.G=K.G){c:Operand}{a:Array Operand}{k:Array TypeId}{Y:List V}(z:ki K.nt d=ab)
  (p:Y=s.get c::a.toList.map s.get) (h:IP C d Y i=aa (e,m,b)) (q:cI m):ef K ⟨d,.call {callee:= .value c,args:=a,argTypes:=k},ty,pos,af,g⟩ s (e.app s):=by
 unfold IP at h;split at h
 ·rename_i f l args;split at h
  ·split at h
   ·rename_i n;cases h;rw[pj];obtain⟨⟨r,o⟩,_⟩:=q;rw[x] at r o;rw[y] at o;simp only[List.cons.injEq] at p;exact PF l _ _ r p.1.symm (hA z) (by rw[<-p.2];exact nk _) n o
   cases h
  ·cases h;rw[pj];obtain⟨n,⟨r,o⟩,_⟩:=q;rw[x] at r o;rw[y] at o;simp only[List.cons.injEq] at p;exact PF l _ _ r p.1.symm (hA z) (by rw[<-p.2];exact nk _) n o
  cases h
 cases h
mutual
theorem OW{U G:Map}{w a:World}{X W:Nat->Prop}: ∀{v:V} {u:Value},sU v=ab->bt U w X v u->bt G a W v u
 | .t (.int _ _),u,_,h=>by rw[dS h];exact .t _ _ (.int _ _)
 | .t (.bool _),u,_,h=>by rw[oa h];exact .t _ _ (.bool _)
 | .t (.str _),u,_,h=>by rw[hQ h];exact .t _ _ (.str _)
 | .agg cs,u,b,h=>by
  simp only[sU] at b;cases h with|agg _ k l h=>exact .agg _ k l (λi c u e m=>Hc b i c u e (h i c u e m))
 | .bX cs,u,b,h=>by
  simp only[sU] at b;cases h with|bX _ k l h=>exact .bX _ k l (λi c u e m=>Hc b i c u e (h i c u e m))
 | .t (.bE _),_,b,_| .t .fp,_,b,_| .t .gM,_,b,_| .t .gn,_,b,_| .t .mm,_,b,_| .t .err,_,b,_=>by simp[sU] at b
 | .ref _ _,_,b,_| .aS _,_,b,_| .bo _ _ _ _ _,_,b,_| .cR _ _ _ _ _,_,b,_| .fn _ _,_,b,_| .dp,_,b,_=>by simp[sU] at b
theorem Hc{U G:Map}{w a:World}{X W:Nat->Prop}: ∀{cs:List V},vd cs=ab-> ∀(i:Nat) c u,cs[i]? =aa c->bt U w X c u->bt G a W c u
 | [],_,_,_,_,h,_=>by simp at h
 |c::cs,b,0,k,u,e,h=>by
  simp only[vd,cx] at b;simp at e;subst e;exact OW b.1 h
 |c::cs,b,i+1,k,u,e,h=>by simp only[vd,cx] at b;exact Hc b.2 i k u (by simpa using e) h
end
theorem cY.read{β:Map}{w:World}{X W:Nat->Prop}{a:List (List T)}{u:Value}(h:cY β w X k (.arr t gen size a))(B:bt β w X (.bo k gen size 0 a.length) u)
  (D: ∀b,W b->X b) (F: ∀b,At β k b-> ¬W b):cV w W (.bE a) u:=by
 obtain⟨q,r⟩:=kx h;rcases fl B r with ⟨y,b,n,G,rfl,m,L,M,Q,R,N⟩|⟨m,_,f,rfl⟩
 ·subst m;rcases h.2 with ⟨o,z⟩|⟨P,l,o,z,U,A,v⟩
  ·rw[r] at o;cases o
  rw[r] at o;cases o;rw[gQ];refine .bE a b 0 size y (λi j=>l.getD (i*size+j) undef) L (F b (.inl ⟨_,r⟩)) R A (λi j aJ I=>?_) λi j p x aL a2=>?_
  ·have c:i*size+j<l.size:=by
    have:(i+1)*size<=a.length*size:=dU _ aJ;rw[ed] at this;omega
   rw[dI];simp[World.cell?,z,c]
  have aJ:=(b5.1 aL).1;have I:j<size:=by rw[<-A p (bT aL)];exact(b5.1 a2).1
  have c:i*size+j<l.size:=by
   have:(i+1)*size<=a.length*size:=dU _ aJ
   grind
  have:=v i j p x l[i*size+j] aL a2 (by simp[c]);have e:l.getD (i*size+j) undef=l[i*size+j]:=by simp[c]
  rw[e];exact this.mono (Ext.refl _ _) λb _=>D b
 have:a=[]:=List.length_eq_zero_iff.1 f;subst this;exact .fW _ _
theorem cY.akB{β:Map}{w:World}{X G:Nat->Prop}{l:List dM}{m:Nat}{a:List (List T)}{u:Value}(h:cY β w X k (.aN l m gen a []))(f:bt β w X (.bo k gen (aR l m).size 0 a.length) u)
  (t: ∀b,G b->X b) (Q: ∀b,At β k b-> ¬G b):cV w G (.bE a) u:=by
 obtain⟨q,D⟩:=uD h;rcases fl f D with ⟨L,b,n,v,rfl,o,I,hs,M,N,hm⟩|⟨o,_,P,rfl⟩
 ·subst o;rcases h.2 with ⟨p,R⟩|⟨hr,r,B,p,R,h3,W,U,_,_,V⟩
  ·rw[D] at p;cases p
  rw[D] at p;cases p;rw[gQ];have y: ∀i j,i<a.length->j<(aR l m).size->i*(aR l m).size+j<r.size:=λi j aJ F=>by
   have:(i+1)*(aR l m).size<=a.length*(aR l m).size:=dU _ aJ
   grind
  refine .bE a b 0 (aR l m).size L (λi j=>r.getD (i*(aR l m).size+j) undef) I (Q b (.inl ⟨_,D⟩)) N W (λi j aJ F=>?_) λi j z x aL a2=>?_
  ·have:=y i j aJ F;rw[dI];simp[World.cell?,R,this]
  have aJ:=(b5.1 aL).1;have F:j<(aR l m).size:=by rw[<-W z (bT aL)];exact(b5.1 a2).1
  have A:=y i j aJ F
  have:=(U i j z x r[i*(aR l m).size+j] aL a2 (by simp[A])).none;have e:r.getD (i*(aR l m).size+j) undef=r[i*(aR l m).size+j]:=by simp[A]
  rw[e];exact this.wW t λc Y=>Q c (.inr ((V c).2 ⟨i,j,Y⟩))
 have:a=[]:=List.length_eq_zero_iff.1 P;subst this;exact .fW _ _
def uW:V->List Nat
 | .bo k _ _ _ _=>[k]
 |_=>[]
mutual
def qP(H:Nat->Option E):V->List Nat
 | .bo k _ _ _ _=>[k]
 | .ref id _=>id::(match H id with
  |some (.cells cs)=>cs.flatMap uW
  |_=>[])
 | .agg cs=>pH H cs
 | .bX cs=>pH H cs
 | .fn _ cs=>pH H cs
 | .t _| .aS _| .cR _ _ _ _ _| .dp=>[]
def pH(H:Nat->Option E):List V->List Nat
 | []=>[]
 |v::a=>qP H v++pH H a
end
section
variable {β:Map}{w:World}{X X1:Nat->Prop}{H:Nat->Option E}
theorem Qy{x:T}{u:Value}(r: ∀k e,H k=aa e->cY β w X k e)(n: ∀b,X1 b->X b)(z: ∀k,k∈uW v-> ∀b,At β k b-> ¬X1 b)
  (h:yF H v=aa (x,c)) (a:cI c) (o:bt β w X v u):cV w X1 x u:=by
 cases v with
 |bo k gen A B len=>
  simp only[yF] at h;split at h
  ·rename_i ty i p l q;cases h;obtain⟨rfl,rfl,rfl,rfl,_⟩:=a;exact(r k _ q).read o n (z k (by simp[uW]))
  ·rename_i D m i l q;cases h;obtain⟨rfl,rfl,rfl,rfl,_⟩:=a;exact(r k _ q).akB o n (z k (by simp[uW]))
  cases h
 |t y=>
  simp only[yF] at h;cases h;cases o with|t _ _ h=>exact(h.mono (Ext.refl _ _) λb _=>n b).zx
 |agg=>cases h
 |bX=>cases h
 |ref=>cases h
 |aS=>cases h
 |cR=>cases h
 |fn=>cases h
 |dp=>cases h
theorem Po(r: ∀k e,H k=aa e->cY β w X k e)(z: ∀b,X1 b->X b): ∀{a:List V} {e9:List T} {n:List dN},(∀k,k∈a.flatMap uW-> ∀b,At β k b-> ¬X1 b)->Db H a=aa (e9,n)->cI n->
  e9.length=a.length/\ ∀(l:Nat->Option Value),(∀(i:Nat) c u,a[i]? =aa c->l i=aa u->bt β w X c u)-> ∀(i:Nat) x u,e9[i]? =aa x->l i=aa u->cV w X1 x u
 | [],_,_,_,h,_=>by cases h;exact⟨rfl,λ_ _ i x u D=>by simp at D⟩
 |v::a,e9,n,A,h,o=>by
  simp only[Db] at h;split at h
  ·rename_i x F M G L Q;cases h;obtain⟨R,W⟩:=cI.app o;obtain⟨f,t⟩:=Po r z (λk p=>A k (by rw[z'];exact po _ p)) Q W;refine⟨by simp[f],λl B i y u q m=>?_⟩;cases i with
   |zero=>
    simp at q;subst q;exact Qy r z (λk p=>A k (by rw[z'];exact pq _ p)) L R (B 0 v u rfl m)
   |succ i=>
    exact t (λj=>l (j+1)) (λj c u I m=>B (j+1) c u (by simpa using I) m) i y u (by simpa using q) m
  cases h
mutual
theorem afk(G: ∀k e,H k=aa e->cY β w X k e)(B: ∀b,X1 b->X b): ∀(v:V) {r:V} {y:List dN} {u:Value},(∀k,k∈qP H v-> ∀b,At β k b-> ¬X1 b)->
  nI H v=aa (r,y)->cI y->bt β w X v u->bt fD w X1 r u
 | .bo k gen M l len,r,y,u,q,h,a,o=>by
  simp only[nI] at h;split at h
  ·rename_i x z A;cases h;exact .t _ _ (Qy G B (λj Q=>q j (by simpa[qP,uW] using Q)) A a o)
  cases h
 | .t x,r,y,u,q,h,a,o=>by
  simp only[nI] at h;cases h;cases o with|t _ _ h=>exact .t _ _ (h.mono (Ext.refl _ _) λb _=>B b).zx
 | .aS cs,r,y,u,q,h,a,o=>by
  simp only[nI] at h;cases h;exact o.under (u:=gK) B (λ_ h=>by simp[gK] at h) rfl
 | .ref id l,r,y,u,q,h,a,o=>by
  simp only[nI] at h;split at h
  ·rename_i cs m;split at h
   ·rename_i e9 z A;cases h;obtain⟨b,N,rfl⟩:=sp o;obtain⟨hr,n,ty,P,T,mP,yJ⟩:=G id _ m;rw[N] at P;cases P;obtain⟨R,D⟩:=Po G B (λk F=>q k (by simp only[qP,m];exact eZ _ F)) A a;have W:b<w.heap.size:=by
     have:=(iR.1 T).1;exact this
    refine .aS (e9.drop l) b l (λj=>n.getD (l+j) undef) W (q id (by simp[qP]) b (.inl ⟨_,N⟩)) (λj Q=>?_) λj x I=>?_
    ·rw[fY] at Q
     have:l+j<n.size:=O
     simp[World.cell?,T,this]
    rw[gq] at I;have Q:=(b5.1 I).1
    have:l+j<n.size:=O
    have e:n.getD (l+j) undef=n[l+j]:=by simp[this]
    rw[e];exact D (λi=>n[i]?) (λi c u m p=>yJ i c u m p) (l+j) x _ I (by simp[this])
   cases h
  cases h
 | .agg cs,r,y,u,q,h,a,o=>by
  simp only[nI] at h;split at h
  ·rename_i U z A;cases h;cases o with|agg _ n Y L=>
   obtain⟨R,D⟩:=ya G B cs (λk F=>q k (by simpa[qP] using F)) A a;exact .agg _ n O λi c u m p=>D (λi=>n[i]?) (λi c u m p=>L i c u m p) i c u m p
  cases h
 | .bX cs,r,y,u,q,h,a,o=>by
  simp only[nI] at h;split at h
  ·rename_i U z A;cases h;cases o with|bX _ n Y L=>
   obtain⟨R,D⟩:=ya G B cs (λk F=>q k (by simpa[qP] using F)) A a;exact .bX _ n O λi c u m p=>D (λi=>n[i]?) (λi c u m p=>L i c u m p) i c u m p
  cases h
 | .fn f cs,r,y,u,q,h,a,o=>by
  simp only[nI] at h;split at h
  ·rename_i U z A;cases h;cases o with|fn _ _ n Y L=>
   obtain⟨R,D⟩:=ya G B cs (λk F=>q k (by simpa[qP] using F)) A a;exact .fn _ _ n O λi c u m p=>D (λi=>n[i]?) (λi c u m p=>L i c u m p) i c u m p
  cases h
 | .cR _ _ _ _ _,_,_,_,_,h,_,_=>by simp only[nI] at h;cases h
 | .dp,_,_,_,_,h,_,_=>by simp only[nI] at h;cases h
theorem ya(z: ∀k e,H k=aa e->cY β w X k e)(A: ∀b,X1 b->X b): ∀(l:List V) {a:List V} {o:List dN},(∀k,k∈pH H l-> ∀b,At β k b-> ¬X1 b)->
  pQ H l=aa (a,o)->cI o->a.length=l.length/\ ∀(m:Nat->Option Value),(∀(i:Nat) c u,l[i]? =aa c->m i=aa u->bt β w X c u)-> ∀(i:Nat) x u,a[i]? =aa x->m i=aa u->bt fD w X1 x u
 | [],_,_,_,h,_=>by simp only[pQ] at h;cases h;exact⟨rfl,λ_ _ i x u F=>by simp at F⟩
 |v::l,a,o,B,h,p=>by
  simp only[pQ] at h;split at h
  ·rename_i x G N L Q R;cases h;obtain⟨W,f⟩:=cI.app p;obtain⟨t,I⟩:=ya z A l (λk q=>B k (by simp only[pH];exact po _ q)) R f;refine⟨by simp[t],λm D i y u r n=>?_⟩;cases i with
   |zero=>
    simp at r;subst r;exact afk z A v (λk q=>B k (by simp only[pH];exact pq _ q)) Q W (D 0 v u rfl n)
   |succ i=>
    exact I (λj=>m (j+1)) (λj c u M n=>D (j+1) c u (by simpa using M) n) i y u (by simpa using r) n
  cases h
end
theorem afl(r: ∀k e,H k=aa e->cY β w X k e)(x: ∀b,X1 b->X b): ∀{l a:List V} {m:List dN} {us:List Value},(∀k,k∈pH H l-> ∀b,At β k b-> ¬X1 b)->
  pQ H l=aa (a,m)->cI m->dx β w X l us->dx fD w X1 a us:=fun {l a m us} y h n q=>by obtain⟨z,A⟩:=ya r x l y h n;exact GA (by rw[z];exact q.fE.1) λi c u o p=>A (λi=>us[i]?) (λi c u o p=>q.fE.2 i c u o p) i c u o p
end
theorem aeq{C:eb}(yU:C.P=K.P)(kn:C.G=K.G){c:Operand}{i:Array Operand}{x:Array TypeId}{l:List V}{H:Nat->Option E}{T:List cM}{U:List dN}(cO:ki K.nt d=ab)(hH: ∀k e,H k=aa e->s.H k=aa e)
  (L:l=s.get c::i.toList.map s.get) (h:Jo C d H l T=aa (e,U,F)) (R:cI U):ef K ⟨d,.call {callee:= .value c,args:=i,argTypes:=x},ty,pos,af,g⟩ s (e.app s):=by
 unfold Jo at h;split at h
 ·rename_i f m args;split at h
  ·rename_i r T;split at h
   ·rename_i ys alW n W;cases h;rw[pj];obtain⟨zB,⟨y,o⟩,_⟩:=cI.app R;rw[yU] at y o;rw[kn] at o;simp only[List.cons.injEq] at L;obtain⟨Y,h1,h2,h3⟩:=y;intro β a w next Q q j
    have t:Y.name≠ "runtime.NumGoroutine" :=by simpa using h2
    have v:Y.body≠aj:=by intro e;simp[e] at h3
    obtain⟨us,I,M⟩:=(L.1.symm▸q.get c).JN;have z:(execOp a.eval ⟨d,.call {callee:= .value c,args:=i,argTypes:=x},ty,pos,af,g⟩).run K.P w= .ok (.enter f (i.map a.eval++us)) w:=by
     simp[execOp,resolve,Deferred.ofValue,I,invoke,callFunc,h1,t,v]
    unfold Oper.wp;rw[z,Oper.upon_enter];have A:dx β w (own K β s.H) (args++m) (i.toList.map a.eval++us.toList):=by rw[L.2];exact(q.oX i.toList).app M
    let X1:Nat->Prop:=λb=>own K β s.H b/\ ∀k,k∈pH H (args++m)-> ¬At β k b;have p:=afl (X1:=X1) (λk e N=>(q.heap k e (hH k e N)).2) (λb n=>n.1) (λk j b n hx=>hx.2 k j n) n zB A;have B:=o w X1 _ q.Dy (λb n=>q.KM b n.1) p;have N:(List.map a.eval i.toList++us.toList).toArray=i.map a.eval++us:=by rw[<-xc,<-Array.toList_append]
    rw[N] at B;refine B.mono ?_;rintro e w' ⟨u,rfl,D,hu⟩;exact j β _ w' ((q.grow D).put d (hA cO) (OW W hu))
   cases h
  cases h
 cases h
theorem afA{C:eb}(N:C.P=K.P)(T:C.G=K.G){c:Operand}{D:Array Operand}{q:Array TypeId}{l:List V}{H:Nat->Option E}{t:List dN}(U:ki K.nt d=ab)
  (Y: ∀k e,H k=aa e->s.H k=aa e) (hu: ∀k,u k=ak->s.u k=ak)
  (x:l=s.get c::D.toList.map s.get) (h:Jt C d l H u W=aa (e,t,F)) (Q:cI t):ef K ⟨d,.call {callee:= .value c,args:=D,argTypes:=q},ty,pos,af,g⟩ s (e.app s):=by
 unfold Jt at h;split at h
 ·rename_i f z args;split at h
  ·rename_i L a r out W;split at h
   ·rename_i R ft hT aJ m;cases h;simp only[List.cons.injEq] at x;simp only[cx] at m;obtain⟨⟨n,A⟩,b⟩:=m;have b:=m0 b;obtain⟨⟨I,p⟩,_⟩:=Q;rw[N] at I p;rw[T] at p;obtain⟨aL,a2⟩:=yh _ _ hT;obtain⟨i1,i2⟩:=BM _ _ aJ;have hx:=acn (K:=K) (s:=s) (o:=⟨d,.call {callee:= .value c,args:=D,argTypes:=q},ty,pos,af,g⟩) c L a z rfl x.1.symm I (hA U) (by rw[<-x.2,aL];exact nk _) a2 i1
     (λk e i=>by
      obtain⟨id,h1,h2,h4⟩:=i2 k e i;exact⟨id,h1,Y _ _ h2,h4⟩)
     (Bq n) (λid hid=>hu _ (M1 A id hid)) (λ_=>b) p
    have hj:=hx.j;have i:df.app ⟨fu d (r.ek (L++a)),(L++a).zip (out.map λe=>aa (e.ek (L++a))),(L++a).map λk=>(k,ab)⟩ s=(s.after (L++a) out).put d (r.ek (L++a)):=by
     have e1:dA s.H ((L++a).zip (out.map λe=>aa (e.ek (L++a))))=lJ s.H (L++a) (λk=>(out[k]?).map (E.ek (L++a))):=by
      have:=MU (L++a) (Bq n) s.H (out.map λe=>aa (e.ek (L++a))) (λk=>(out[k]?).map (E.ek (L++a))) (by simpa using b) (λk e i=>by
       rw[eQ] at i;cases M:out[k]? with
       |none=>rw[M] at i;cases i
       |some y=>rw[M] at i;simp at i;rw[<-i];rfl)
      exact this
     have e2:dA s.u ((L++a).map λk=>(k,ab))=lJ s.u (L++a) (λ_=>ab):=by
      funext id;by_cases B:id∈L++a
      ·obtain⟨k,hk⟩:=j1.1 B;rw[o5 (Bq n) hk];exact Nj B
      rw[nX B,mW _ _ _ λv x=>B (by obtain⟨y,hy,e⟩:=eK.1 x;cases e;exact hy)]
     unfold df.app S.after;cases d<;>simp only[fu,dA,S.put,e1,e2]
    grind
   cases h
  cases h
 cases h
theorem abo{C:eb}(q:eg K.P C.cD){H:Nat->Option E}(r: ∀k e,H k=aa e->s.H k=aa e)
  (y:s.get x=v) (h:HT C t H v l=aa (e,c,b)) (a:cI c):ef K ⟨aj,.call {callee:= .builtin .clear,args:= #[x],argTypes:= #[t]},ty,pos,af,g⟩ s (e.app s):=by
 unfold HT at h;split at h
 ·cases h
 rename_i i z;split at h
 ·rename_i m n;have A:K.P.underlying t=aa (.slice m):=(q _ _ z).iP.2.2.2 m n;split at h
  ·cases h
  rename_i j B;obtain⟨Q,D,_⟩:=q _ _ B;split at h
  ·rename_i o;split at h
   ·rename_i F G;cases h;obtain⟨rfl,rfl,p,⟨L,rfl⟩,_⟩:=a;exact aft x _ _ _ m _ _ _ y (r _ _ F) A D G o p L
   cases h
  cases h
 cases h
theorem ab8{C:eb}(z:eg K.P C.cD){A:TypeId}{H:Nat->Option E}{w:V}{B:List cM}{D:List dN}(L: ∀k e,H k=aa e->s.H k=aa e)(Q:ki K.nt d=ab)
  (W:s.get x=v) (f:s.get y=w) (h:IK C d t H v w B=aa (e,D,l)) (n:cI D):ef K ⟨d,.call {callee:= .builtin .copy,args:= #[x,y],argTypes:= #[t,A]},ty,pos,af,g⟩ s (e.app s):=by
 unfold IK at h;split at h
 ·cases h
 rename_i i u;split at h
 ·rename_i o p;have I:K.P.underlying t=aa (.slice o):=(z _ _ u).iP.2.2.2 o p;split at h
  ·cases h
  rename_i j F;obtain⟨rA,M,_⟩:=z _ _ F;split at h
  ·rename_i k gen G q len a R m B N;split at h
   ·rename_i T b r c U Y;cases h;obtain⟨rfl,rfl,rfl,rfl,b8,⟨cC,rfl⟩,_⟩:=n;have F:=agC (K:=K) (s:=s) (d:=d) (ty:=ty) (pos:=pos) (af:=af) (g:=g) (gen:=b) (size:=j.size) x y k q len o T A c a (hA Q) W (by rw[f,<-N];exact uV w) (L _ _ U) I M (by simpa[Nat.blt_eq] using Y) b8 cC
    have: ∀v e,df.app ⟨fu d v,[(k,aa e)],[]⟩ s=({s with H:=aZ s.H k (aa e)}:S).put d v:=by intro v e;cases d<;>rfl
    grind
   cases h
  cases h
 cases h
theorem agn{C:eb}(q:eg K.P C.cD)(I:C.P=K.P)(T:C.G=K.G)(cK:C.nt=K.nt)(U:C.dZ=K.dZ){l:List V}{H:Nat->Option E}{R:List dN}
  (a:l=o.op.operands.toList.map s.get) (B: ∀k e,H k=aa e->s.H k=aa e) (L: ∀k,u k=ak->s.u k=ak) (h:JH C o l H u M=aa (e,R,Q)) (b:cI R):ef K o s (e.app s):=by
 obtain⟨d,W,ty,pos,af,g⟩:=o;unfold JH at h;dsimp only at h;split at h
 ·cases h
 rename_i p;rw[cK] at p;have D: ∀{W:Op} {r:jv},l=W.operands.toList.map s.get->(match yN C.P C.cD H W l M with|some (v,R,M)=>aa ((⟨fu d v,[],[]⟩:df),R,M)|none=>aj)=aa (e,R,Q)->ef K ⟨d,W,ty,pos,af,g⟩ s (e.app s):=by
  intro W r a h;split at h
  ·rename_i v alV alp m;cases h;rw[pj];rw[I] at m;exact YP (vals:=l) (hA p) (fG.of_eq a.symm) ((agO q m b).sub B)
  cases h
 split at h
 ·split at h
  ·simp only[Op.operands,hL,List.map_nil,List.cons.injEq,and_true] at a;split at h
   ·exact acb p a.symm h
   exact aep L p a.symm h
  cases h
 ·split at h
  ·rename_i i aJ;exact abq q aJ L p h
  cases h
 ·split at h
  ·simp only[Op.operands,hL,List.map_nil,List.cons.injEq,and_true] at a;split at h
   ·rename_i m;cases h;exact abj q rfl B a.1.symm a.2.symm m b
   exact Zh q B a.1.symm a.2.symm h b
  cases h
 ·split at h
  ·simp only[Op.operands,hL,List.map_nil,List.cons.injEq,and_true] at a;exact ab6 q L p a.1.symm a.2.symm h b
  cases h
 ·split at h
  ·rename_i m;cases h;exact aei q L p (by simpa[Op.operands] using a) m b
  exact ab7 q L p (by simpa[Op.operands] using a) h
 ·rename_i c;obtain⟨N,args,F⟩:=c;dsimp only at h;split at h
  ·rename_i f;split at h
   ·exact afA I T p B L (by simpa[Op.operands,Call.operands] using a) h b
   split at h
   ·exact aeq I T p B (by simpa[Op.operands,Call.operands] using a) h b
   exact aca I T p (by simpa[Op.operands,Call.operands] using a) h b
  ·split at h
   ·rename_i x y t Y v w j z;have A:args= #[x,y]:=by rw[<-j]
    have n:F= #[t,Y]:=by rw[<-z]
    subst A;subst n;simp only[Op.operands,Call.operands] at a;simp at a;split at h
    ·rename_i m;cases h;exact ZW q U B p a.1.symm a.2.symm m b
    exact Yv q B p a.1.symm a.2.symm h b
   cases h
  ·split at h
   ·rename_i x t v j z;have A:args= #[x]:=by rw[<-j]
    have n:F= #[t]:=by rw[<-z]
    subst A;subst n;simp only[Op.operands,Call.operands] at a;simp at a;exact abo q B a.symm h b
   cases h
  ·split at h
   ·rename_i x y t Y v w j z;have A:args= #[x,y]:=by rw[<-j]
    have n:F= #[t,Y]:=by rw[<-z]
    subst A;subst n;simp only[Op.operands,Call.operands] at a;simp at a;exact ab8 q B p a.1.symm a.2.symm h b
   cases h
  ·exact D (r:=aj) a h
  cases h
 exact D (r:=aj) a h
def ajw:V->List Nat
 | .ref id _=>[id]
 | .bo id _ _ _ _=>[id]
 | .cR id _ _ _ _=>[id]
 |_=>[]
def Jr:List V->List Nat
 | []=>[]
 |v::a=>ajw v++Jr a
def S1:List cM->List Nat
 | .nat k::a=>k::S1 a
 |_=>[]
def ajv:List cM->List Nat
 | .b ab::c=>S1 c
 | .nat k::_=>[k]
 | .int _:: .nat k::_=>[k]
 | .dL L a _ _::_=>L++a
 | .lt k _ _::_=>[k]
 |_=>[]
def iT(k:Nat):List Nat->Bool
 | []=>ak
 |x::l=>bif cc x k then ab else iT k l
theorem B3{k:Nat}: ∀{l:List Nat},iT k l=ab->k∈l
 | [],h=>by cases h
 |x::l,h=>by
  simp only[iT] at h;cases a:cc x k with
  |true=>rw[m0 a];exact ff
  |false=>rw[a] at h;exact eZ _ (B3 h)
def vk(a:List Nat)(H:Nat->Option E):Nat->Option E:=λk=>bif iT k a then H k else aj
def vj(a:List Nat)(u:Nat->Bool):Nat->Bool:=λk=>bif iT k a then u k else ab
theorem aao{H:Nat->Option E}{e:E}(h:vk r H k=aa e):H k=aa e:=by
 unfold vk at h
 grind
theorem ZC(h:vj r u k=ak):u k=ak:=by
 unfold vj at h
 grind
def Vl:Op->List V->Bool
 | .nilCheck _,[.cR _ _ _ _ _]=>ak
 | .move _,_| .assign _,_| .pick _ _ _,_| .nilCheck _,_| .binOp _ _ _ _ _,_| .unOp _ _ _,_| .convert _ _ _,_| .makeFunc _ _ _,_| .extract _ _,_| .field _ _ _,_| .build _ _,_=>ab
 | .fieldAddr _ _ _,[.ref _ _]=>ab
 |_,_=>ak
def Vi:Op->Bool
 | .load _ _| .slice _ _ _ _ _| .fieldAddr _ _ _| .indexAddr _ _ _| .index _ _ _| .nilCheck _=>ab
 | .call c=>match c.callee with
  | .builtin .len=>ab
  | .builtin .max=>ab
  | .builtin .min=>ab
  |_=>ak
 |_=>ak
def v7(o:Oper)(a:List V)(b:List cM):List Nat:=match Vl o.op a with
 |true=>[]
 |false=>match Vi o.op with
  |true=>Jr a
  |false=>Jr a++ajv b
def ra(C:eb)(o:Oper)(a:List V)(s:S)(b:List cM):jv:=JH C o a (vk (v7 o a b) s.H) (vj (v7 o a b) s.u) b
def Ky:Bool->Bool->Bool
 |true,ab=>ab
 |false,ak=>ab
 |_,_=>ak
def vE(a:Array Oper)(j:Nat)(s:S):Option V:=match (a[j]?).bind (·.dst) with
 |some t=>aa (s.t t)
 |none=>aj
def s9(C:eb)(h:Array Oper)(o:Oper)(a:List cM)(s:S):jv:=
 match o.guard with
 |none=>ra C o (o.op.operands.toList.map s.get) s a
 |some (j,c)=>match vE h j s with
  |some (.bX [])=>match ki C.nt o.dst with
   |true=>aa (⟨fu o.dst (.bX []),[],[]⟩,[],a)
   |false=>aj
  |some (.t (.bool b))=>match a with
   | .b w::a=>match Ky w c with
    |true=>match ra C o (o.op.operands.toList.map s.get) s a with
     |some (e,i,a)=>aa (e,.p (b=w)::i,a)
     |none=>aj
    |false=>match ki C.nt o.dst with
     |true=>aa (⟨fu o.dst (.bX []),[],[]⟩,[.p (b=w)],a)
     |false=>aj
   |_=>aj
  |_=>aj
end
structure eb.Fits (C:eb) (K:Ctx):Prop where
 T:eg K.P C.cD
 P:C.P=K.P
 G:C.G=K.G
 nt:C.nt=K.nt
 dZ:C.dZ=K.dZ
 ic:C.ic=K.ic
section
variable {K:Ctx}{s:S}{C:eb}
theorem Rg(a:C.Fits K)(h:ra C o (o.op.operands.toList.map s.get) s i=aa (e,c,b))(k:cI c):ef K o s (e.app s):=
 agn a.T a.P a.G a.nt a.dZ rfl (λ_ _ h=>aao h) (λ_ h=>ZC h) h k
theorem adH{w v:Bool}(h:Ky w v=ab):w=v:=by cases w<;>cases v<;>first|rfl|cases h
theorem acw{w v:Bool}(h:Ky w v=ak):w= !v:=by cases w<;>cases v<;>first|rfl|cases h
theorem Ql{b:Array Oper}{j:Nat}(h:vE b j s=aa v): ∃t,(b[j]?).bind (·.dst)=aa t/\s.t t=v:=by
 unfold vE at h
 grind
theorem Re(q:C.Fits K){c:Array Oper}(h:s9 C c o l s=aa (e,m,i))(a:cI m):iC K c o s (e.app s):=by
 unfold s9 at h;split at h
 ·rename_i n;exact iC.of n (Rg q h a)
 rename_i j A n;split at h
 ·rename_i k;obtain⟨t,r,x⟩:=Ql k;split at h
  ·rename_i y;cases h;rw[pj];exact iC.skip n r x (hA (q.nt▸y))
  cases h
 ·rename_i b k;obtain⟨t,r,x⟩:=Ql k;split at h
  ·rename_i w l;split at h
   ·rename_i hw;have hw:=adH hw;subst hw;split at h
    ·rename_i F B D z;cases h;obtain⟨rfl,p⟩:=a;exact iC.ft n r x (Rg q z p)
    cases h
   rename_i hw;have hw:=acw hw;subst hw;split at h
   ·rename_i y;cases h;obtain⟨rfl,_⟩:=a;rw[pj];exact iC.out n r x (hA (q.nt▸y))
   cases h
  cases h
 cases h
theorem agc{b:Array Oper}{l:List Oper}{c:S}{Q:S->Prop}(h:iC K b o s c)(m:qX K b l c Q):qX K b (o::l) s Q:=
 λβ a w e n p=>h β a w (wpList K.P b e l) e n λi q r k=>m i q r e k p
end
end Go.Lift
