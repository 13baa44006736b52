/- The evaluator of values is right. -/
import Derived.Test.YtlbojjldejlgaaaGreatSLiftU
namespace Go.Lift
open Go
section
variable {P:Program} {Ty:List (Nat×TyI)} {H:Nat→Option E} {d:Option Tmp} {ty:TypeId} {pos:String} {af:Array Edge} {g:Option (Nat×Bool)}
variable {t:TypeId} {u:TypeDesc} {z:Value} {size bytes:Nat}
theorem Y7(op:BinOp)(hb:aHM op=true)(x y:Operand)(t t':TypeId)(k:IntKind)(m n:Int):Yield P H ⟨d,.binOp op t x y t',ty,pos,af,g⟩ [.t (.int k m),.t (.int k n)] (.t (.int k (bits op k m n))):=by
 intro β w X ρ _ ha;refine⟨Value.int k (bits op k m n),?_,.t _ _ (.int k _)⟩;cases op<;>simp [aHM] at hb<;>
  simp [execOp,aX ha.1,aX ha.2.1,eqGuard,binOp,intBits_and,intBits_or,intBits_xor,intBits_andNot]
theorem aKd(x y:Operand)(t t':TypeId)(m n:List UInt8):Yield P H ⟨d,.binOp .lss t x y t',ty,pos,af,g⟩ [.t (.str m),.t (.str n)] (.t (.bool (Op.bytesLess m n))):=by intro β w X ρ _ ha;refine⟨.bool (Op.bytesLess m n),?_,.t _ _ (.bool _)⟩;simp [execOp,cU ha.1,cU ha.2.1,eqGuard,binOp,Op.stringOp]
theorem aKf(x y:Operand)(t t':TypeId)(m n:List UInt8):Yield P H ⟨d,.binOp .gtr t x y t',ty,pos,af,g⟩ [.t (.str m),.t (.str n)] (.t (.bool (!Op.bytesLess m n&& !m==n))):=by intro β w X ρ _ ha;refine⟨.bool (!Op.bytesLess m n&& !m==n),?_,.t _ _ (.bool _)⟩;simp [execOp,cU ha.1,cU ha.2.1,eqGuard,binOp,Op.stringOp]
theorem aKe(x y:Operand)(t t':TypeId)(m n:List UInt8):Yield P H ⟨d,.binOp .leq t x y t',ty,pos,af,g⟩ [.t (.str m),.t (.str n)] (.t (.bool (Op.bytesLess m n||m==n))):=by intro β w X ρ _ ha;refine⟨.bool (Op.bytesLess m n||m==n),?_,.t _ _ (.bool _)⟩;simp [execOp,cU ha.1,cU ha.2.1,eqGuard,binOp,Op.stringOp]
theorem aLz(x:Operand)(t:TypeId)(k:IntKind)(n:Int):Yield P H ⟨d,.unOp .neg t x,ty,pos,af,g⟩ [.t (.int k n)] (.t (.int k (k.wrap (0-n)))):=by intro β w X ρ _ ha;refine⟨.int k (k.wrap (0-n)),?_,.t _ _ (.int _ _)⟩;simp [execOp,aX ha.1,Op.unary,Op.intArith]
theorem aA6(x:Operand)(f:FuncId)(cs:List V):Yield P H ⟨d,.nilCheck x,ty,pos,af,g⟩ [.fn f cs] (.fn f cs):=by intro β w X ρ _ ha;have h1:RV β w X (.fn f cs) (ρ x):=ha.1;refine⟨ρ x,?_,h1⟩;generalize hx:ρ x=y at h1;cases h1 with|fn=>simp [execOp,hx]
theorem aHy{op:BinOp}{x y:Operand}{t t':TypeId}{k:IntKind}{m n:Int}{hs hs':List Hn}{v:V}{φ:List Ob}(h:aHz op k m n hs=some (v,φ,hs'))(hφ:Obs φ):
  Yield P H ⟨d,.binOp op t x y t',ty,pos,af,g⟩ [.t (.int k m),.t (.int k n)] v:=by
 cases op<;>simp only [aHz,aJ0,Option.some.injEq,Prod.mk.injEq,reduceCtorEq] at h<;>obtain⟨rfl,rfl,rfl⟩:=h
 ·exact aLJ _ _ _ _ _ _ _
 ·exact aLu _ _ _ _ _ _ _
 ·exact aLA _ _ _ _ _ _ _
 ·exact aLw _ _ _ _ _ _ _ hφ.1
 ·exact aLv _ _ _ _ _ _ _ hφ.1
 ·exact Y7 .and rfl _ _ _ _ _ _ _
 ·exact Y7 .or rfl _ _ _ _ _ _ _
 ·exact Y7 .xor rfl _ _ _ _ _ _ _
 ·exact Y7 .andNot rfl _ _ _ _ _ _ _
 ·exact aLH _ _ _ _ _ _ _
 ·exact aLy _ _ _ _ _ _ _
 ·exact aLD _ _ _ _ _ _ _
 ·exact aLE _ _ _ _ _ _ _
 ·exact aLF _ _ _ _ _ _ _
 exact aLG _ _ _ _ _ _ _
theorem aHn{op:BinOp}{x y:Operand}{t t':TypeId}{m n:List UInt8}{hs hs':List Hn}{v:V}{φ:List Ob}(h:aHo op m n hs=some (v,φ,hs'))(hφ:Obs φ):
  Yield P H ⟨d,.binOp op t x y t',ty,pos,af,g⟩ [.t (.str m),.t (.str n)] v:=by
 unfold aHo at h;split at h<;>cases h
 ·obtain⟨h1,rfl⟩:=aHY hφ.1;exact aLI _ _ _ _ _ _ h1
 ·exact aKh _ _ _ _ _ _
 ·exact aKc _ _ _ _ _ _
 ·exact aKg _ _ _ _ _ _
 ·exact aKd _ _ _ _ _ _
 ·exact aKf _ _ _ _ _ _
 exact aKe _ _ _ _ _ _
theorem V9(hT:TyOK P Ty)(h:aDf (bN Ty t)=true):P.underlying t=some .bool:=by
 unfold aDf at h;split at h
 ·rename_i i hi;split at h
  ·rename_i hu;exact(hT _ _ hi).und.1 hu
  cases h
 cases h
theorem yV(hT:TyOK P Ty)(h:H8 (bN Ty t)=true):P.underlying t=some .string:=by
 unfold H8 at h;split at h
 ·rename_i i hi;split at h
  ·rename_i hu;exact(hT _ _ hi).und.2.2.1 hu
  cases h
 cases h
theorem wP(hT:TyOK P Ty)(h:aBE (bN Ty t)=true): ∃e,P.underlying t=some (.slice e):=by
 unfold aBE at h;split at h
 ·rename_i i hi;split at h
  ·rename_i e hu;exact⟨e,(hT _ _ hi).und.2.2.2 e hu⟩
  cases h
 cases h
theorem o5{β:Map}{w:World}{X:Nat→Prop}{u:Value}(h:RV β w X (.t .nilI) u):u= .nilIface:=by cases h with|t _ _ h=>cases h with|nilI=>rfl
theorem aEE{β:Map}{w:World}{X:Nat→Prop}{u:Value}(h:RV β w X (.t .err) u): ∃t v,u= .iface t v:=by cases h with|t _ _ h=>cases h with|err t v=>exact⟨t,v,rfl⟩
theorem A7(w:World)(n:Nat){ms}(a:TypeId)(b:Value)(ht:P.underlying t=some (.interface ms)):(Op.equalIn (n+1) t (.iface a b) .nilIface).run P w= .ok false w:=by simp [Op.equalIn,run_underlying ht]
theorem yJ(w:World)(n:Nat){ms}(ht:P.underlying t=some (.interface ms)):(Op.equalIn (n+1) t .nilIface .nilIface).run P w= .ok true w:=by simp [Op.equalIn,run_underlying ht]
theorem X4(w:World){ms}(a:TypeId)(b:Value)(ht:P.underlying t=some (.interface ms)):(Op.equal t (.iface a b) .nilIface).run P w= .ok false w:=A7 w 9999 a b ht
theorem K2(w:World){ms}(ht:P.underlying t=some (.interface ms)):(Op.equal t .nilIface .nilIface).run P w= .ok true w:=yJ w 9999 ht
theorem aDZ(a b):binOp .eql t (.iface a b) .nilIface=(do pure (.bool (←Op.equal t (.iface a b) .nilIface))):=rfl
theorem aDY(a b):binOp .neq t (.iface a b) .nilIface=(do pure (.bool (!(←Op.equal t (.iface a b) .nilIface)))):=rfl
theorem aDX:binOp .eql t .nilIface .nilIface=(do pure (.bool (←Op.equal t .nilIface .nilIface))):=rfl
theorem aDW:binOp .neq t .nilIface .nilIface=(do pure (.bool (!(←Op.equal t .nilIface .nilIface)))):=rfl
theorem X5(w:World)(o:BinOp)(x y:Operand)(hc:(isC x||isC y)=true):(eqGuard o t x y .nilIface .nilIface).run P w= .ok () w:=by cases x<;>cases y<;>simp [isC] at hc<;>simp [eqGuard]<;>split<;>simp
theorem aKm(x y:Operand)(t':TypeId){ms}(ht:P.underlying t=some (.interface ms)):Yield P H ⟨d,.binOp .eql t x y t',ty,pos,af,g⟩ [.t .err,.t .nilI] (.t (.bool false)):=by intro β w X ρ _ ha;obtain⟨a,b,h1⟩:=aEE ha.1;refine⟨.bool false,?_,.t _ _ (.bool _)⟩;simp [execOp,h1,o5 ha.2.1,eqGuard,aDZ,X4 w a b ht]
theorem aKl(x y:Operand)(t':TypeId){ms}(ht:P.underlying t=some (.interface ms)):Yield P H ⟨d,.binOp .neq t x y t',ty,pos,af,g⟩ [.t .err,.t .nilI] (.t (.bool true)):=by intro β w X ρ _ ha;obtain⟨a,b,h1⟩:=aEE ha.1;refine⟨.bool true,?_,.t _ _ (.bool _)⟩;simp [execOp,h1,o5 ha.2.1,eqGuard,aDY,X4 w a b ht]
theorem aKj(x y:Operand)(t':TypeId){ms}(ht:P.underlying t=some (.interface ms))(hc:(isC x||isC y)=true):Yield P H ⟨d,.binOp .eql t x y t',ty,pos,af,g⟩ [.t .nilI,.t .nilI] (.t (.bool true)):=by intro β w X ρ _ ha;refine⟨.bool true,?_,.t _ _ (.bool _)⟩;simp [execOp,o5 ha.1,o5 ha.2.1,X5 w _ x y hc,aDX,K2 w ht]
theorem aKi(x y:Operand)(t':TypeId){ms}(ht:P.underlying t=some (.interface ms))(hc:(isC x||isC y)=true):Yield P H ⟨d,.binOp .neq t x y t',ty,pos,af,g⟩ [.t .nilI,.t .nilI] (.t (.bool false)):=by intro β w X ρ _ ha;refine⟨.bool false,?_,.t _ _ (.bool _)⟩;simp [execOp,o5 ha.1,o5 ha.2.1,X5 w _ x y hc,aDW,K2 w ht]
theorem wQ{Ty:List (Nat×TyI)}(hT:TyOK P Ty)(h:aG8 (bN Ty t)=true): ∃ms,P.underlying t=some (.interface ms):=by
 unfold aG8 at h;split at h
 ·rename_i i hi;split at h
  ·rename_i hu;obtain⟨u,h1,h2⟩:=hT _ _ hi;simp only [TyI.is,hu] at h2;obtain⟨m,rfl⟩:=h2;exact⟨m,h1.1⟩
  cases h
 cases h
theorem aHA{Ty:List (Nat×TyI)}(hT:TyOK P Ty){op:BinOp}{x y:Operand}{t':TypeId}{a b:V}{hs hs':List Hn}{v:V}{φ:List Ob}(h:aHB Ty op t x y a b hs=some (v,φ,hs')):
  Yield P H ⟨d,.binOp op t x y t',ty,pos,af,g⟩ [a,b] v:=by
 unfold aHB at h;split at h
 ·rename_i h1 h2;obtain⟨ms,ht⟩:=wQ hT h1;cases h;exact aKm _ _ _ ht
 ·rename_i h1 h2;obtain⟨ms,ht⟩:=wQ hT h1;cases h;exact aKl _ _ _ ht
 ·rename_i h1 h2;obtain⟨ms,ht⟩:=wQ hT h1;cases h;exact aKj _ _ _ ht h2
 ·rename_i h1 h2;obtain⟨ms,ht⟩:=wQ hT h1;cases h;exact aKi _ _ _ ht h2
 cases h
theorem F6(w:World)(n:Nat){e}(a:Addr)(l c:Nat)(ht:P.underlying t=some (.slice e)):(Op.equalIn (n+1) t (.slice (some a) l c) (.slice none 0 0)).run P w= .ok false w:=by simp [Op.equalIn,run_underlying ht]
theorem aHR(w:World){e}(a:Addr)(l c:Nat)(ht:P.underlying t=some (.slice e)):(Op.equal t (.slice (some a) l c) (.slice none 0 0)).run P w= .ok false w:=F6 w 9999 a l c ht
theorem aH2(a:Addr)(l c:Nat):binOp .eql t (.slice (some a) l c) (.slice none 0 0)=(do pure (.bool (←Op.equal t (.slice (some a) l c) (.slice none 0 0)))):=rfl
theorem aIm(x y:Operand)(t':TypeId)(rows:List (List T)){e}(ht:P.underlying t=some (.slice e))(hr:rows≠[]):Yield P H ⟨d,.binOp .eql t x y t',ty,pos,af,g⟩ [.t (.sl rows),.t .nilS] (.t (.bool false)):=by
 intro β w X ρ _ ha;obtain⟨a,l,c,h1⟩: ∃a l c,ρ x= .slice (some a) l c:=by
  cases ha.1 with|t _ _ h=>
  generalize hu:ρ x=u at h;cases h with
  |sl0=>exact absurd rfl hr
  |sl _ b off size cap f=>exact⟨_,_,_,rfl⟩
 have h2:ρ y= .slice none 0 0:=by
  cases ha.2.1 with|t _ _ h=>
  generalize hu:ρ y=u at h;cases h;rfl
 refine⟨.bool false,?_,.t _ _ (.bool _)⟩;simp [execOp,h1,h2,eqGuard,aH2,aHR w a l c ht]
theorem aHp{Ty:List (Nat×TyI)}(hT:TyOK P Ty){op:BinOp}{x y:Operand}{t':TypeId}{a b:V}{hs hs':List Hn}{v:V}{φ:List Ob}(h:aHq Ty op t a b hs=some (v,φ,hs'))(hφ:Obs φ):
  Yield P H ⟨d,.binOp op t x y t',ty,pos,af,g⟩ [a,b] v:=by
 unfold aHq at h;split at h
 ·rename_i h1;obtain⟨e,ht⟩:=wP hT h1;cases h;exact aIm _ _ _ _ ht hφ.1
 cases h
theorem aA9(x y:Operand)(e n id off k:Nat){u:TypeDesc}{z:Value}{size bytes:Nat}(ht:P.underlying t=some (.array n e))(he:TI P e u z size bytes)(hi:k<n):
  Yield P H ⟨d,.indexAddr t x y,ty,pos,af,g⟩ [.ref id off,.t (.int .i64 (k:Int))] (.ref id (off+k*size)):=by intro β w X ρ hE ha;have hn:=aX ha.2.1;obtain⟨b,hb,hx⟩:=qI ha.1;refine⟨.pointer (some ⟨b,off+k*size,none⟩),?_,.ref _ _ _ hb⟩;simp [execOp,hx,hn,Instr.indexAt,asIntOf,run_underlying ht,he.run_sizeOf,cX,Instr.sureAddr];intro h;omega
theorem aHN(hT:TyOK P Ty){op:BinOp}{x y:Operand}{t t':TypeId}{a b:V}{hs hs':List Hn}{v:V}{φ:List Ob}(h:aHO P Ty op t a b hs=some (v,φ,hs'))(hφ:Obs φ):
  Yield P H ⟨d,.binOp op t x y t',ty,pos,af,g⟩ [a,b] v:=by
 unfold aHO at h;split at h
 ·split at h
  ·rename_i hk;subst hk;exact aHy h hφ
  cases h
 ·exact aHn h hφ
 ·split at h
  ·rename_i hb;cases h;exact aKo _ _ _ _ _ (V9 hT hb)
  ·rename_i hb;cases h;exact aKn _ _ _ _ _ (V9 hT hb)
  cases h
 ·split at h
  ·rename_i ms ns b hs h1 h2;cases h;obtain⟨p1,p2,p3,_⟩:=hφ;rw [o6 h1,o6 h2,←p3];exact aF1 _ _ _ _ ms ns p1 (by simp) (by simp [p2])
  ·rename_i ms ns b hs h1 h2;cases h;obtain⟨p1,p2,p3,_⟩:=hφ;rw [o6 h1,o6 h2,←p3];exact aFZ _ _ _ _ ms ns p1 (by simp) (by simp [p2])
  cases h
 cases h
theorem aJu{op:UnOp}{x:Operand}{a:V}{hs hs':List Hn}{v:V}{φ:List Ob}(h:aK4 op a hs=some (v,φ,hs')):
  Yield P H ⟨d,.unOp op t x,ty,pos,af,g⟩ [a] v:=by
 unfold aK4 at h;split at h<;>cases h
 ·exact aLx _ _ _
 exact aLz _ _ _ _
theorem aBF(hT:TyOK P Ty){i:TyI}(hi:bN Ty t=some i)(h:H9 Ty (some i)=true): ∃e,P.underlying t=some (.slice e)∧P.underlying e=some (.int .u8):=by
 unfold H9 at h;split at h
 ·rename_i i' hii;cases hii;split at h
  ·rename_i e hu;split at h
   ·rename_i j hj;split at h
    ·rename_i hu2;exact⟨e,(hT _ _ hi).und.2.2.2 e hu,(hT _ _ hj).und.2.1 _ hu2⟩
    cases h
   cases h
  cases h
 cases h
theorem aFy(hT:TyOK P Ty){src dst:TypeId}{x:Operand}{a:V}{hs hs':List Hn}{v:V}{φ:List Ob}(h:aDs Ty src dst a hs=some (v,φ,hs'))(hφ:Obs φ):
  Yield P H ⟨d,.convert src dst x,ty,pos,af,g⟩ [a] v:=by
 unfold aDs at h;split at h
 ·rename_i i j hi hj;split at h
  ·rename_i k' k n m hs hu;cases h;obtain⟨us,hus,_⟩:=hT _ _ hi;have hp:k'.wrap n=m:=hφ.1;rw [←hp];exact aF2 _ _ _ _ _ us _ hus.1 ((hT _ _ hj).und.2.1 _ hu)
  ·rename_i k n m hs hu;cases h;have hp:UInt8.ofInt n=m:=hφ.1;rw [←hp];obtain⟨us,hus,_⟩:=hT _ _ hi
   have:=aF2 (P:=P) (H:=H) (d:=d) (ty:=ty) (pos:=pos) (af:=af) (g:=g) x src dst k .u8 us n hus.1 ((hT _ _ hj).und.2.1 _ hu);rw [aIq] at this;exact this
  ·rename_i rows l hs hu;split at h
   ·rename_i hb;cases h;have hp:rows=l.map mH:=hφ.1;obtain⟨e,h1,h2⟩:=aBF hT hi hb;rw [hp];exact aBc _ _ _ _ _ h1 h2 ((hT _ _ hj).und.2.2.1 hu)
   cases h
  cases h
 cases h
theorem Y2(x:Operand)(id gen i off:Nat)(ty':TypeId)(sz:Nat)(rows:List (List T))(row:List T)(ht:TI P t u z size bytes)(hu:vJ u=true)(hH:H id=some (.arr ty' gen sz rows))(hr:rows[i]? =some row)(hc:off+size≤row.length):
  Yield P H ⟨d,.load t x,ty,pos,af,g⟩ [.eref id gen sz i off] (.agg (((row.drop off).take size).map .t)):=by
 intro β w X ρ hE ha;obtain⟨q,hq⟩:=iG (hE id _ hH);obtain⟨b,hb0,hx⟩:=iN ha.1 hq;subst hb0;have hb:=hq;rcases(hE id _ hH).2 with ⟨h1,h2⟩|⟨b',us,h1,h2,h3,h4,h5⟩
 ·rw [h2] at hr;simp at hr
 rw [hb] at h1;cases h1;have hi:i<rows.length:=(b7.1 hr).1;have hrl:row.length=sz:=h4 row (dF hr);have hlt: ∀j,j<size→i*sz+off+j<us.size:=by
  intro j hj
  have:(i+1)*sz≤rows.length*sz:=lV _ hi;rw [mX] at this;omega
 have hcell: ∀j,j<size→w.cell? ⟨b,i*sz+off+j,none⟩=some (us.getD (i*sz+off+j) undef):=fun j hj=>by
  have:=hlt j hj;simp [World.cell?,h2,this]
 refine⟨_,by simp [execOp,hx,Instr.loadAt,Instr.sureAddr,ht.run_loadVarN w hu hcell];rfl,?_⟩;refine .agg _ _ (by simp;omega) fun j c v hc' hv=>?_;have hj:j<size:=by
  have:=(b7.1 hc').1;simp at this;omega
 rw [yF,vBo hj,O0] at hc';simp only [List.getElem?_toArray,List.getElem?_map,List.getElem?_range hj,Option.map_some,Option.some.injEq] at hv;cases hx2:row[off+j]? with
 |none=>rw [hx2] at hc';simp at hc'
 |some x2=>
  rw [hx2] at hc';simp at hc';rw [←hc']
  have:=hlt j hj;have h6:=h5 i (off+j) row x2 us[i*sz+off+j] hr hx2 (by rw [←vBq];simp [this]);rw [←hv];simp only [Array.getElem?_eq_getElem this,Option.getD_some];exact .t _ _ h6
theorem X2(hT:TyOK P Ty){x:Operand}{a:V}{hs hs':List Hn}{v:V}{φ:List Ob}(h:zB Ty H t a hs=some (v,φ,hs'))(hφ:Obs φ):
  Yield P H ⟨d,.load t x,ty,pos,af,g⟩ [a] v:=by
 unfold zB at h;split at h
 ·cases h
 rename_i i hi;obtain⟨tu,ht,hag⟩:=(hT _ _ hi).agg;split at h
 ·rename_i id off;split at h
  ·rename_i cs hH;split at h
   ·rename_i ha;split at h
    ·rename_i hle;cases h;exact aIn _ _ _ _ ht (hag.trans ha) hH hle
    cases h
   rename_i ha;split at h
   ·rename_i c hc;cases h;exact aIo _ _ _ _ _ ht (hag.trans ha) hH hc
   cases h
  cases h
 ·rename_i cs;split at h
  ·rename_i ha;split at h
   ·rename_i hle;cases h;exact aCD _ _ ht (hag.trans ha) (rH hle)
   cases h
  rename_i ha;split at h
  ·cases h;exact aCE _ _ _ ht (hag.trans ha)
  cases h
 ·rename_i id gen sz k off;split at h
  ·rename_i gen' sz' rows r hs hH ha;split at h
   ·rename_i c hc;cases h;obtain⟨rfl,rfl,hr,_⟩:=hφ;exact Y3 _ _ _ _ _ _ _ _ _ _ ht (hag.trans ha) hH hr hc
   cases h
  ·rename_i gen' sz' rows r hs hH ha;split at h
   ·rename_i hle;cases h;obtain⟨rfl,rfl,hr,_⟩:=hφ;exact Y2 _ _ _ _ _ _ _ _ _ ht (hag.trans ha) hH hr (rH hle)
   cases h
  cases h
 cases h
theorem J5{j:Nat}: ∀{hs:List (Nat×Nat×V)},J6 j hs=none→ ∀i v,(i,j,v)∉hs
 | [],_,_,_,h=>by cases h
 |h::hs,hf,i,v,hm=>by
  simp only [J6] at hf;cases hb:Nat.beq h.2.1 j with
  |true=>rw [hb] at hf;cases hf
  |false=>
   rw [hb] at hf;rcases pT.1 hm with rfl|hm
   ·simp at hb
   exact J5 hf i v hm
theorem uX{j:Nat}{x:Nat×V}: ∀{hs:List (Nat×Nat×V)},J6 j hs=some x→(x.1,j,x.2)∈hs
 |h::hs,hf=>by
  simp only [J6] at hf;cases hb:Nat.beq h.2.1 j with
  |true=>
   rw [hb] at hf;cases hf
   have:=fP hb;subst this;exact yG
  |false=>rw [hb] at hf;exact uG _ (uX hf)
theorem pC{ho:List (Nat×Nat×V)}{k:Nat}: ∀{n j:Nat} {l:List (Nat×V)},uW ho j n=some l→Obs (I1 k l)→l.length=n∧ ∀i v,(l.map (·.2))[i]? =some v→(k,j+i,v)∈ho
 |0,_,_,h,_=>by cases h;exact⟨rfl,fun i v h=>by simp at h⟩
 |n+1,j,l,h,hφ=>by
  simp only [uW] at h;split at h
  ·rename_i x l' h1 h2;cases h;simp only [I1] at hφ;obtain⟨e,hφ⟩:=hφ;obtain⟨a1,a2⟩:=pC h2 hφ;refine⟨by simp [a1],fun i v hv=>?_⟩;cases i with
   |zero=>
    simp at hv;subst hv
    have:=uX h1;rw [e] at this;exact this
   |succ i=>
    have:=a2 i v (by simpa using hv)
    rwa [show j+1+i=j+(i+1) by omega] at this
  cases h
theorem aDn(hT:TyOK P Ty){x:Operand}{a:V}{hs hs':List Hn}{v:V}{φ:List Ob}(h:aAs Ty H t a hs=some (v,φ,hs'))(hφ:Obs φ):
  Yield P H ⟨d,.load t x,ty,pos,af,g⟩ [a] v:=by
 unfold aAs at h;split at h
 ·rename_i i id gen sz k off r hs hi;obtain⟨tu,ht,hag⟩:=(hT _ _ hi).agg;split at h
  ·rename_i Γ m gen' rows ho hH;split at h
   ·rename_i ha;split at h
    ·rename_i c hc hf;split at h
     ·rename_i hk;cases h;obtain⟨rfl,hz,hr,_⟩:=hφ;exact nI _ _ _ _ _ Γ m _ rows ho r c _ ht (hag.trans ha) hH hz hr hc (.inr ⟨fun v=>J5 hf _ _,hk,rfl⟩)
     cases h
    ·rename_i c i' v' hc hf;cases h;obtain⟨rfl,hz,hr,rfl,_⟩:=hφ;exact nI _ _ _ _ _ Γ m _ rows _ r c _ ht (hag.trans ha) hH hz hr hc (.inl (uX hf))
    cases h
   rename_i ha;split at h
   ·rename_i l hl hf;cases h;obtain⟨rfl,hz,hr,hq⟩:=hφ;obtain⟨b1,b2⟩:=pC hf hq;exact vP _ _ _ _ _ Γ m _ rows ho r _ ht (hag.trans ha) hH hz hr (rH hl) (by simp [b1]) b2
   cases h
  cases h
 ·rename_i i id gen sz k off q r hs hi;obtain⟨tu,ht,hag⟩:=(hT _ _ hi).agg;split at h
  ·rename_i Γ m gen' rows ho hH;split at h
   ·rename_i c i' j' v' ha hc hq;cases h;obtain⟨rfl,hz,hr,rfl,rfl,_⟩:=hφ;exact nI _ _ _ _ _ Γ m _ rows _ r c _ ht (hag.trans ha) hH hz hr hc (.inl (dF hq))
   ·rename_i ha;split at h
    ·rename_i l hl hf;cases h;obtain⟨rfl,hz,hr,hq⟩:=hφ;obtain⟨b1,b2⟩:=pC hf hq;exact vP _ _ _ _ _ Γ m _ rows ho r _ ht (hag.trans ha) hH hz hr (rH hl) (by simp [b1]) fun j v hv=>vAL (b2 j v hv)
    cases h
   cases h
  cases h
 ·rename_i i id gen sz k off q r hs hi;obtain⟨tu,ht,hag⟩:=(hT _ _ hi).agg;split at h
  ·rename_i Γ m gen' rows ho hH;split at h
   ·rename_i c ha hc hk;cases h;obtain⟨rfl,hz,hr,hq⟩:=hφ;exact nI _ _ _ _ _ Γ m _ rows _ r c _ ht (hag.trans ha) hH hz hr hc (.inr ⟨wN hq,hk,rfl⟩)
   cases h
  cases h
 cases h
theorem aDq(hT:TyOK P Ty){k:Nat}{x:Operand}{a:V}{hs hs':List Hn}{v:V}{φ:List Ob}(h:aAu Ty H t k a hs=some (v,φ,hs'))(hφ:Obs φ):
  Yield P H ⟨d,.fieldAddr t x k,ty,pos,af,g⟩ [a] v:=by
 unfold aAu at h;split at h
 ·cases h
 rename_i i hi;split at h
 ·rename_i fs hu;obtain⟨rfs,hst,hfs,_⟩:=(hT _ _ hi).st hu;have ht:P.underlying t=some (.struct rfs):=hst.1;split at h
  ·cases h
  rename_i fld0 hf0;rw [←hfs,yF] at hf0;cases hf:rfs[k]? with
  |none=>rw [vBz,hf] at hf0;cases hf0
  |some fld=>
  rw [vBz,hf] at hf0;simp only [Option.map_some,Option.some.injEq] at hf0;subst hf0;split at h
  ·cases h
  rename_i j hj;obtain⟨ju,htf,_⟩:=hT _ _ hj;split at h
  ·cases h
  rename_i hz;have hz':(j.size==0)=false:=by
   rw [beq_eq_false_iff_ne];intro e;rw [e] at hz;cases hz
  split at h
  ·cases h;exact aBa _ _ _ _ _ _ _ _ _ _ _ ht hf rfl htf hz'
  ·cases h;exact aCH _ _ _ _ _ _ _ _ _ _ ht hf rfl htf hz'
  ·split at h
   ·rename_i hH;cases h;obtain⟨rfl,rfl,_⟩:=hφ;exact Y5 _ _ _ _ _ _ _ _ _ _ _ _ _ _ ht hf rfl htf hz' _ _ hH
   ·rename_i hH;cases h;obtain⟨rfl,_⟩:=hφ;exact Y6 _ _ _ _ _ _ _ _ _ _ _ _ _ _ ht hf rfl htf hz' _ hH rfl
   cases h
  cases h
 cases h
theorem aHG(hT:TyOK P Ty){k:Nat}{x:Operand}{a:V}{hs hs':List Hn}{v:V}{φ:List Ob}(h:aHH Ty t k a hs=some (v,φ,hs')):
  Yield P H ⟨d,.field t x k,ty,pos,af,g⟩ [a] v:=by
 unfold aHH at h;split at h
 ·cases h
 rename_i i hi;split at h
 ·rename_i fs hu;obtain⟨rfs,hst,hfs,_⟩:=(hT _ _ hi).st hu;split at h
  ·cases h
  rename_i fld0 hf0;rw [←hfs,yF] at hf0;cases hf:rfs[k]? with
  |none=>rw [vBz,hf] at hf0;cases hf0
  |some fld=>
  rw [vBz,hf] at hf0;simp only [Option.map_some,Option.some.injEq] at hf0;subst hf0;split at h
  ·cases h
  rename_i j hj;obtain⟨ju,htf,hag⟩:=(hT _ _ hj).agg;split at h
  ·split at h
   ·rename_i ha;split at h
    ·rename_i hb;cases h;exact aBb _ _ _ _ _ _ hst hf htf (.inl ⟨hag.trans ha,hb,rfl⟩)
    cases h
   rename_i ha;split at h
   ·rename_i hv;cases h;exact aBb _ _ _ _ _ _ hst hf htf (.inr ⟨hag.trans ha,hv⟩)
   cases h
  cases h
 cases h
theorem bT{n:Int}(h:0≤n):n=((n.toNat:Nat):Int):=by omega
theorem aHC(hT:TyOK P Ty){x y:Operand}{a b:V}{hs hs':List Hn}{v:V}{φ:List Ob}(h:aHD Ty H t a b hs=some (v,φ,hs'))(hφ:Obs φ):
  Yield P H ⟨d,.indexAddr t x y,ty,pos,af,g⟩ [a,b] v:=by
 unfold aHD at h;split at h
 ·cases h
 rename_i i hi;split at h
 ·rename_i e hu;have ht:P.underlying t=some (.slice e):=(hT _ _ hi).und.2.2.2 e hu;split at h
  ·cases h
  rename_i j hj;obtain⟨ju,he,_⟩:=hT _ _ hj;split at h
  ·rename_i rows n;split at h
   ·rename_i r hs;split at h
    ·rename_i hl;cases h;obtain⟨h1,h2⟩:=qH (show ix rows n=some r from hφ.1);rw [bT h1];exact aCG _ _ _ _ _ _ ht he h2 (fP hl)
    cases h
   cases h
  ·rename_i id gen size off len n;split at h
   ·rename_i gen' sz' rows hH hl;cases h;obtain⟨rfl,rfl,⟨h1,h2⟩,_⟩:=hφ;have hn:n.toNat<len:=by omega
    have:=fP hl;subst this;have hq:=aA8 (P:=P) (H:=H) (d:=d) (ty:=ty) (pos:=pos) (af:=af) (g:=g) x y e id gen' off len n.toNat _ _ hH ht he hn;rw [←bT h1] at hq;exact hq
   ·rename_i m gen' rows hs0 hH hl;cases h;obtain⟨rfl,⟨h1,h2⟩,_⟩:=hφ;have hn:n.toNat<len:=by omega
    have:=fP hl;subst this;have hq:=Y4 (P:=P) (H:=H) (d:=d) (ty:=ty) (pos:=pos) (af:=af) (g:=g) x y e id _ off len n.toNat _ hH rfl ht he hn;rw [←bT h1] at hq;exact hq
   cases h
  cases h
 ·rename_i m e hu;obtain⟨u0,htu,hiu⟩:=hT _ _ hi;have ht:P.underlying t=some (.array m e):=by
   simp only [TyI.is,hu] at hiu;rw [←hiu];exact htu.1
  split at h
  ·cases h
  rename_i j hj;obtain⟨ju,he,_⟩:=hT _ _ hj;split at h
  ·rename_i id off n k hs;split at h
   ·rename_i hl;cases h;rw [show n=(k:Int) from hφ.1];exact aA9 _ _ _ _ _ _ _ ht he (rH hl)
   cases h
  cases h
 cases h
theorem aDp(hT:TyOK P Ty){x y:Operand}{a b:V}{hs hs':List Hn}{v:V}{φ:List Ob}(h:aAt Ty t a b hs=some (v,φ,hs'))(hφ:Obs φ):
  Yield P H ⟨d,.index t x y,ty,pos,af,g⟩ [a,b] v:=by
 unfold aAt at h;split at h
 ·rename_i l n c hs hb;cases h;obtain⟨h1,h2⟩:=qH (show ix l n=some c from hφ.1);rw [bT h1];exact aFY _ _ _ _ _ (yV hT hb) h2
 cases h
theorem aHv(hT:TyOK P Ty){x:Operand}{a:V}{hs hs':List Hn}{v:V}{φ:List Ob}(h:aHw Ty H t a hs=some (v,φ,hs'))(hφ:Obs φ):
  Yield P H ⟨d,.call {callee:= .builtin .len,args:= #[x],argTypes:= #[t]},ty,pos,af,g⟩ [a] v:=by
 unfold aHw at h;split at h
 ·split at h
  ·rename_i hb;cases h;exact aEX _ _ (yV hT hb)
  cases h
 ·split at h
  ·rename_i hb;cases h;obtain⟨e,he⟩:=wP hT hb;have hp:=hφ.1;rw [←hp];exact aF0 _ _ _ he
  cases h
 ·split at h
  ·rename_i hH hb;cases h;obtain⟨rfl,rfl,rfl,_⟩:=hφ;obtain⟨e,he⟩:=wP hT hb;exact aEY _ _ _ _ _ _ _ he _ _ hH
  ·rename_i hH hb;cases h;obtain⟨rfl,rfl,_⟩:=hφ;obtain⟨e,he⟩:=wP hT hb;exact aCF _ _ _ _ _ _ _ he _ hH rfl
  cases h
 cases h
theorem aDl(hT:TyOK P Ty){x:Operand}{lo hi:Option Operand}{vals:List V}{hs hs':List Hn}{v:V}{φ:List Ob}(h:aAr Ty H t lo hi vals hs=some (v,φ,hs'))(hφ:Obs φ):
  Yield P H ⟨d,.slice t x lo hi none,ty,pos,af,g⟩ vals v:=by
 unfold aAr at h;split at h
 ·rename_i l ws;split at h
  ·rename_i a b r hs hs1 hb;cases h;obtain⟨h1,h2,h3,rfl⟩:=v6 hφ.1;have ht:=yV hT hs1;unfold K0 at hb;split at hb
   ·cases hb;rw [bT h1,bT (show 0≤b by omega)];exact aA4 _ _ _ _ _ _ ht (by omega) (by omega)
   ·cases hb
    have:=xQ (P:=P) (H:=H) (d:=d) (ty:=ty) (pos:=pos) (af:=af) (g:=g) x ‹_› l a.toNat ht (by omega);rw [←bT h1] at this;simpa using this
   ·cases hb
    have:=D3 (P:=P) (H:=H) (d:=d) (ty:=ty) (pos:=pos) (af:=af) (g:=g) x ‹_› l b.toNat ht (by omega);rw [←bT (show 0≤b by omega)] at this;simpa using this
   cases hb
  cases h
 ·rename_i rows ws;split at h
  ·cases h
  rename_i i hi0;split at h
  ·rename_i e hu;have ht:P.underlying t=some (.slice e):=(hT _ _ hi0).und.2.2.2 e hu;split at h
   ·rename_i j a b r hs hj hb;cases h;obtain⟨h0,hr,_⟩:=hφ;obtain⟨h1,h2,h3,rfl⟩:=v6 h0;obtain⟨ju,he,_⟩:=hT _ _ hj;unfold K0 at hb;split at hb
    ·cases hb;rw [bT h1,bT (show 0≤b by omega)];exact aCA _ _ _ _ _ _ _ ht he (by omega) (by omega) hr
    ·cases hb
     have:=A3 (P:=P) (H:=H) (d:=d) (ty:=ty) (pos:=pos) (af:=af) (g:=g) x ‹_› e rows a.toNat ht he (by omega) hr;rw [←bT h1] at this;simpa using this
    ·cases hb
     have:=O7 (P:=P) (H:=H) (d:=d) (ty:=ty) (pos:=pos) (af:=af) (g:=g) x ‹_› e rows b.toNat ht he (by omega) hr;rw [←bT (show 0≤b by omega)] at this;simpa using this
    cases hb
   cases h
  cases h
 ·rename_i id gn sz off len ws;split at h
  ·rename_i i g' hi0 hg;split at h
   ·rename_i e hu;have ht:P.underlying t=some (.slice e):=(hT _ _ hi0).und.2.2.2 e hu;obtain⟨en,hH,hg⟩:=vBr.1 hg;have hbd: ∀{a b:Int},K0 lo hi len ws=some (a,b)→0≤a→0≤b→ ∀β w X (ρ:Operand→Value),RVs β w X ws (lo.toList.map ρ++hi.toList.map ρ)→aCv len lo hi ρ a.toNat b.toNat:=by
     intro a b hb h0 h1 β w X ρ hr;unfold K0 at hb;split at hb
     ·cases hb;refine⟨?_,?_⟩
      ·show ρ _=_;rw [vBC h0];exact aX hr.1
      show ρ _=_;rw [vBC h1];exact aX hr.2.1
     ·cases hb;refine⟨?_,by show _=_;simp⟩;show ρ _=_;rw [vBC h0];exact aX hr.1
     ·cases hb;refine⟨by show _=_;simp,?_⟩;show ρ _=_;rw [vBC h1];exact aX hr.1
     cases hb
    split at h
    ·rename_i j a b o m hs hj hb;cases h;obtain⟨rfl,rfl,⟨h1,h2,h3,h4,rfl,rfl⟩,_⟩:=hφ;obtain⟨ju,he,_⟩:=hT _ _ hj;exact aKb x lo hi e id _ off len a.toNat b.toNat en hH hg ht he (by omega) (by omega) (by omega) (hbd hb h1 (by omega))
    ·rename_i j a b hs hj hb;cases h;obtain⟨rfl,⟨h1,rfl,h3⟩,_⟩:=hφ;obtain⟨ju,he,_⟩:=hT _ _ hj;exact aIl x lo hi e id _ _ off len a.toNat en hH hg ht he (by omega) (hbd hb h1 h1)
    ·rename_i j a b o m hs hj hb;split at h
     ·rename_i hrows;cases h;obtain⟨rfl,rfl,rfl,⟨h0,h1,h2,h3,rfl,rfl⟩,_⟩:=hφ;obtain⟨ju,he,_⟩:=hT _ _ hj;exact aIk x lo hi e _ id _ off len a.toNat b.toNat _ hrows ht he h0 (by omega) (by omega) (hbd hb h1 (by omega))
     cases h
    cases h
   cases h
  cases h
 cases h
theorem aBO(hT:TyOK P Ty){x lo hi mx:Operand}{vals:List V}{hs hs':List Hn}{v:V}{φ:List Ob}(h:J9 Ty H t vals hs=some (v,φ,hs'))(hφ:Obs φ):
  Yield P H ⟨d,.slice t x (some lo) (some hi) (some mx),ty,pos,af,g⟩ vals v:=by
 unfold J9 at h;split at h
 ·rename_i id gn sz off len a b c;split at h
  ·rename_i i g' hi0 hg;split at h
   ·rename_i e hu;have ht:P.underlying t=some (.slice e):=(hT _ _ hi0).und.2.2.2 e hu;obtain⟨en,hH,hg⟩:=vBr.1 hg;split at h
    ·rename_i j hj;cases h;obtain⟨rfl,⟨h1,h2,h3,h4⟩,_⟩:=hφ;obtain⟨ju,he,_⟩:=hT _ _ hj;rw [bT h1,bT (show 0≤b by omega),bT (show 0≤c by omega)];exact aFX x lo hi mx e id _ _ off len a.toNat b.toNat c.toNat en hH hg ht he (by omega) (by omega) (by omega)
    cases h
   cases h
  cases h
 cases h
theorem aFz(hT:TyOK P Ty){x hi mx:Operand}{vals:List V}{hs hs':List Hn}{v:V}{φ:List Ob}(h:aDt Ty t vals hs=some (v,φ,hs'))(hφ:Obs φ):
  Yield P H ⟨d,.slice t x none (some hi) (some mx),ty,pos,af,g⟩ vals v:=by
 unfold aDt at h;split at h
 ·split at h
  ·rename_i i hi0;split at h
   ·rename_i e hu;have ht:P.underlying t=some (.slice e):=(hT _ _ hi0).und.2.2.2 e hu;split at h
    ·rename_i j hj;cases h;obtain⟨⟨h0,rfl⟩,hr,_⟩:=hφ;obtain⟨h1,h2,h3,rfl⟩:=v6 h0;obtain⟨ju,he,_⟩:=hT _ _ hj
     have:=Y0 (P:=P) (H:=H) (d:=d) (ty:=ty) (pos:=pos) (af:=af) (g:=g) x hi mx e _ _ ht he (Int.toNat_le.2 h3) hr;rw [←bT h2] at this;simpa using this
    cases h
   cases h
  cases h
 cases h
theorem aAw(hT:TyOK P Ty){b:Builtin}{tys:List TypeId}{xs:List Operand}{vals:List V}{hs hs':List Hn}{v:V}{φ:List Ob}(h:zC Ty H b tys xs vals hs=some (v,φ,hs'))(hφ:Obs φ):
  Yield P H ⟨d,.call {callee:= .builtin b,args:=xs.toArray,argTypes:=tys.toArray},ty,pos,af,g⟩ vals v:=by
 unfold zC at h;split at h
 ·exact aHv hT h hφ
 ·split at h
  ·rename_i hk;subst hk;cases h;exact aLC _ _ _ _ _ _
  cases h
 ·split at h
  ·rename_i hk;subst hk;cases h;exact aLB _ _ _ _ _ _
  cases h
 cases h
theorem aHr{x:Operand}{a:V}{hs hs':List Hn}{v:V}{φ:List Ob}(h:aHs H a hs=some (v,φ,hs'))(hφ:Obs φ):Yield P H ⟨d,.nilCheck x,ty,pos,af,g⟩ [a] v:=by
 unfold aHs at h;split at h
 ·split at h
  ·rename_i g' hg;cases h;obtain⟨rfl,_⟩:=hφ;obtain⟨en,hH,hg⟩:=vBr.1 hg;exact aA7 _ _ _ _ _ _ en hH hg
  cases h
 ·cases h;exact D4 _ _ rfl
 ·cases h;exact D4 _ _ rfl
 ·cases h;exact aA6 _ _ _
 cases h
theorem aDw(hT:TyOK P Ty){ps:Array (Nat×Operand)}{vals:List V}{hs hs':List Hn}{v:V}{φ:List Ob}(h:aAx Ty t (ps.toList.map (·.1)) vals hs=some (v,φ,hs')):
  Yield P H ⟨d,.build t ps,ty,pos,af,g⟩ vals v:=by
 unfold aAx at h;split at h
 ·cases h
 rename_i i hi;split at h
 ·rename_i fs hu;split at h
  ·rename_i cs h1 h2 h3;cases h;obtain⟨rfs,hst,_,hpl⟩:=(hT _ _ hi).st hu;exact aIp ps rfs i.places vals cs hst hpl h1 (by simpa using h2) h3
  cases h
 cases h
theorem aK3(hT:TyOK P Ty){op:Op}{vals:List V}{hs hs':List Hn}{v:V}{φ:List Ob}(h:evV P Ty H op vals hs=some (v,φ,hs'))(hφ:Obs φ):
  Yield P H ⟨d,op,ty,pos,af,g⟩ vals v:=by
 unfold evV at h;split at h
 ·split at h
  ·cases h;exact aKk _ _
  cases h
 ·split at h
  ·cases h;exact aF3 _ _
  cases h
 ·split at h
  ·rename_i b v w c hs;cases h;obtain⟨hb,_⟩:=hφ;subst hb;cases b
   ·exact Y1 _ _ _ _ _
   exact aA5 _ _ _ _ _
  cases h
 ·split at h
  ·split at h
   ·rename_i hl;cases h;exact X2 hT hl hφ
   exact aDn hT h hφ
  cases h
 ·split at h
  ·exact aHr h hφ
  cases h
 ·split at h
  ·split at h
   ·rename_i r hr;cases h;exact aHN hT hr hφ
   split at h
   ·rename_i r hr;cases h;exact aHA hT hr
   exact aHp hT h hφ
  cases h
 ·split at h
  ·exact aJu h
  cases h
 ·split at h
  ·exact aFy hT h hφ
  cases h
 ·rename_i fn first caps
  split at h
  ·rename_i f hf;cases h
   have:first= #[]:=by simpa using hf
   subst this;exact aCC _ _ _
  cases h
 ·split at h
  ·exact aDl hT h hφ
  split at h
  ·exact aBO hT h hφ
  ·exact aFz hT h hφ
  cases h
 ·split at h
  ·exact aDq hT h hφ
  cases h
 ·split at h
  ·exact aHG hT h
  cases h
 ·split at h
  ·exact aHC hT h hφ
  cases h
 ·split at h
  ·exact aDp hT h hφ
  cases h
 ·split at h
  ·split at h
   ·rename_i hk;cases h;exact aEZ _ _ _ _ hk
   cases h
  cases h
 ·exact aDw hT h
 ·rename_i c;obtain⟨callee,args,tys⟩:=c;dsimp only at h;split at h
  ·have:=aAw (d:=d) (ty:=ty) (pos:=pos) (af:=af) (g:=g) hT h hφ;simpa using this
  cases h
 cases h
end
end Go.Lift
