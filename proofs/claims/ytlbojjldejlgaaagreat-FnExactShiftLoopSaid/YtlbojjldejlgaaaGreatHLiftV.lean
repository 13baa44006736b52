/- The evaluator of values is right. -/
import Derived.Test.YtlbojjldejlgaaaGreatHLiftU
namespace Go.Lift
open Go
section
variable {P:Program} {Ty:List (Nat×TyI)} {H:Nat→Option E} {d:Option Tmp} {ty:TypeId} {pos:String} {af:Array Edge} {g:Option (Nat×Bool)}
variable {t:TypeId} {u:TypeDesc} {z:Value} {size bytes:Nat}
theorem Y2(op:BinOp)(hb:aHN op=true)(x y:Operand)(t t':TypeId)(k:IntKind)(m n:Int):Yield P H ⟨d,.binOp op t x y t',ty,pos,af,g⟩ [.t (.int k m),.t (.int k n)] (.t (.int k (bits op k m n))):=by
 intro β w X ρ _ ha;refine⟨Value.int k (bits op k m n),?_,.t _ _ (.int k _)⟩;cases op<;>simp [aHN] at hb<;>
  simp [execOp,aX ha.1,aX ha.2.1,eqGuard,binOp,intBits_and,intBits_or,intBits_xor,intBits_andNot]
theorem aKd(x y:Operand)(t t':TypeId)(m n:List UInt8):Yield P H ⟨d,.binOp .lss t x y t',ty,pos,af,g⟩ [.t (.str m),.t (.str n)] (.t (.bool (Op.bytesLess m n))):=by intro β w X ρ _ ha;refine⟨.bool (Op.bytesLess m n),?_,.t _ _ (.bool _)⟩;simp [execOp,cT ha.1,cT ha.2.1,eqGuard,binOp,Op.stringOp]
theorem aKf(x y:Operand)(t t':TypeId)(m n:List UInt8):Yield P H ⟨d,.binOp .gtr t x y t',ty,pos,af,g⟩ [.t (.str m),.t (.str n)] (.t (.bool (!Op.bytesLess m n&& !m==n))):=by intro β w X ρ _ ha;refine⟨.bool (!Op.bytesLess m n&& !m==n),?_,.t _ _ (.bool _)⟩;simp [execOp,cT ha.1,cT ha.2.1,eqGuard,binOp,Op.stringOp]
theorem aKe(x y:Operand)(t t':TypeId)(m n:List UInt8):Yield P H ⟨d,.binOp .leq t x y t',ty,pos,af,g⟩ [.t (.str m),.t (.str n)] (.t (.bool (Op.bytesLess m n||m==n))):=by intro β w X ρ _ ha;refine⟨.bool (Op.bytesLess m n||m==n),?_,.t _ _ (.bool _)⟩;simp [execOp,cT ha.1,cT ha.2.1,eqGuard,binOp,Op.stringOp]
theorem aLA(x:Operand)(t:TypeId)(k:IntKind)(n:Int):Yield P H ⟨d,.unOp .neg t x,ty,pos,af,g⟩ [.t (.int k n)] (.t (.int k (k.wrap (0-n)))):=by intro β w X ρ _ ha;refine⟨.int k (k.wrap (0-n)),?_,.t _ _ (.int _ _)⟩;simp [execOp,aX ha.1,Op.unary,Op.intArith]
theorem aA0(x:Operand)(f:FuncId)(cs:List V):Yield P H ⟨d,.nilCheck x,ty,pos,af,g⟩ [.fn f cs] (.fn f cs):=by intro β w X ρ _ ha;have h1:RV β w X (.fn f cs) (ρ x):=ha.1;refine⟨ρ x,?_,h1⟩;generalize hx:ρ x=y at h1;cases h1 with|fn=>simp [execOp,hx]
theorem aHz{op:BinOp}{x y:Operand}{t t':TypeId}{k:IntKind}{m n:Int}{hs hs':List Hn}{v:V}{φ:List Ob}(h:aHA op k m n hs=some (v,φ,hs'))(hφ:Obs φ):
  Yield P H ⟨d,.binOp op t x y t',ty,pos,af,g⟩ [.t (.int k m),.t (.int k n)] v:=by
 cases op<;>simp only [aHA,aJ0,Option.some.injEq,Prod.mk.injEq,reduceCtorEq] at h<;>obtain⟨rfl,rfl,rfl⟩:=h
 ·exact aLK _ _ _ _ _ _ _
 ·exact aLv _ _ _ _ _ _ _
 ·exact aLB _ _ _ _ _ _ _
 ·exact aLx _ _ _ _ _ _ _ hφ.1
 ·exact aLw _ _ _ _ _ _ _ hφ.1
 ·exact Y2 .and rfl _ _ _ _ _ _ _
 ·exact Y2 .or rfl _ _ _ _ _ _ _
 ·exact Y2 .xor rfl _ _ _ _ _ _ _
 ·exact Y2 .andNot rfl _ _ _ _ _ _ _
 ·exact aLI _ _ _ _ _ _ _
 ·exact aLz _ _ _ _ _ _ _
 ·exact aLE _ _ _ _ _ _ _
 ·exact aLF _ _ _ _ _ _ _
 ·exact aLG _ _ _ _ _ _ _
 exact aLH _ _ _ _ _ _ _
theorem aHo{op:BinOp}{x y:Operand}{t t':TypeId}{m n:List UInt8}{hs hs':List Hn}{v:V}{φ:List Ob}(h:aHp op m n hs=some (v,φ,hs'))(hφ:Obs φ):
  Yield P H ⟨d,.binOp op t x y t',ty,pos,af,g⟩ [.t (.str m),.t (.str n)] v:=by
 unfold aHp at h;split at h<;>cases h
 ·obtain⟨h1,rfl⟩:=aHZ hφ.1;exact aLJ _ _ _ _ _ _ h1
 ·exact aKh _ _ _ _ _ _
 ·exact aKc _ _ _ _ _ _
 ·exact aKg _ _ _ _ _ _
 ·exact aKd _ _ _ _ _ _
 ·exact aKf _ _ _ _ _ _
 exact aKe _ _ _ _ _ _
theorem V5(hT:TyOK P Ty)(h:aDg (bN Ty t)=true):P.underlying t=some .bool:=by
 unfold aDg at h;split at h
 ·rename_i i hi;split at h
  ·rename_i hu;exact(hT _ _ hi).und.1 hu
  cases h
 cases h
theorem yW(hT:TyOK P Ty)(h:I2 (bN Ty t)=true):P.underlying t=some .string:=by
 unfold I2 at h;split at h
 ·rename_i i hi;split at h
  ·rename_i hu;exact(hT _ _ hi).und.2.2.1 hu
  cases h
 cases h
theorem wO(hT:TyOK P Ty)(h:aBv (bN Ty t)=true): ∃e,P.underlying t=some (.slice e):=by
 unfold aBv at h;split at h
 ·rename_i i hi;split at h
  ·rename_i e hu;exact⟨e,(hT _ _ hi).und.2.2.2 e hu⟩
  cases h
 cases h
theorem o2{β:Map}{w:World}{X:Nat→Prop}{u:Value}(h:RV β w X (.t .nilI) u):u= .nilIface:=by cases h with|t _ _ h=>cases h with|nilI=>rfl
theorem aEI{β:Map}{w:World}{X:Nat→Prop}{u:Value}(h:RV β w X (.t .err) u): ∃t v,u= .iface t v:=by cases h with|t _ _ h=>cases h with|err t v=>exact⟨t,v,rfl⟩
theorem A8(w:World)(n:Nat){ms}(a:TypeId)(b:Value)(ht:P.underlying t=some (.interface ms)):(Op.equalIn (n+1) t (.iface a b) .nilIface).run P w= .ok false w:=by simp [Op.equalIn,run_underlying ht]
theorem yK(w:World)(n:Nat){ms}(ht:P.underlying t=some (.interface ms)):(Op.equalIn (n+1) t .nilIface .nilIface).run P w= .ok true w:=by simp [Op.equalIn,run_underlying ht]
theorem W8(w:World){ms}(a:TypeId)(b:Value)(ht:P.underlying t=some (.interface ms)):(Op.equal t (.iface a b) .nilIface).run P w= .ok false w:=A8 w 9999 a b ht
theorem K2(w:World){ms}(ht:P.underlying t=some (.interface ms)):(Op.equal t .nilIface .nilIface).run P w= .ok true w:=yK w 9999 ht
theorem aD2(a b):binOp .eql t (.iface a b) .nilIface=(do pure (.bool (←Op.equal t (.iface a b) .nilIface))):=rfl
theorem aD1(a b):binOp .neq t (.iface a b) .nilIface=(do pure (.bool (!(←Op.equal t (.iface a b) .nilIface)))):=rfl
theorem aD0:binOp .eql t .nilIface .nilIface=(do pure (.bool (←Op.equal t .nilIface .nilIface))):=rfl
theorem aDZ:binOp .neq t .nilIface .nilIface=(do pure (.bool (!(←Op.equal t .nilIface .nilIface)))):=rfl
theorem W9(w:World)(o:BinOp)(x y:Operand)(hc:(isC x||isC y)=true):(eqGuard o t x y .nilIface .nilIface).run P w= .ok () w:=by cases x<;>cases y<;>simp [isC] at hc<;>simp [eqGuard]<;>split<;>simp
theorem aKm(x y:Operand)(t':TypeId){ms}(ht:P.underlying t=some (.interface ms)):Yield P H ⟨d,.binOp .eql t x y t',ty,pos,af,g⟩ [.t .err,.t .nilI] (.t (.bool false)):=by intro β w X ρ _ ha;obtain⟨a,b,h1⟩:=aEI ha.1;refine⟨.bool false,?_,.t _ _ (.bool _)⟩;simp [execOp,h1,o2 ha.2.1,eqGuard,aD2,W8 w a b ht]
theorem aKl(x y:Operand)(t':TypeId){ms}(ht:P.underlying t=some (.interface ms)):Yield P H ⟨d,.binOp .neq t x y t',ty,pos,af,g⟩ [.t .err,.t .nilI] (.t (.bool true)):=by intro β w X ρ _ ha;obtain⟨a,b,h1⟩:=aEI ha.1;refine⟨.bool true,?_,.t _ _ (.bool _)⟩;simp [execOp,h1,o2 ha.2.1,eqGuard,aD1,W8 w a b ht]
theorem aKj(x y:Operand)(t':TypeId){ms}(ht:P.underlying t=some (.interface ms))(hc:(isC x||isC y)=true):Yield P H ⟨d,.binOp .eql t x y t',ty,pos,af,g⟩ [.t .nilI,.t .nilI] (.t (.bool true)):=by intro β w X ρ _ ha;refine⟨.bool true,?_,.t _ _ (.bool _)⟩;simp [execOp,o2 ha.1,o2 ha.2.1,W9 w _ x y hc,aD0,K2 w ht]
theorem aKi(x y:Operand)(t':TypeId){ms}(ht:P.underlying t=some (.interface ms))(hc:(isC x||isC y)=true):Yield P H ⟨d,.binOp .neq t x y t',ty,pos,af,g⟩ [.t .nilI,.t .nilI] (.t (.bool false)):=by intro β w X ρ _ ha;refine⟨.bool false,?_,.t _ _ (.bool _)⟩;simp [execOp,o2 ha.1,o2 ha.2.1,W9 w _ x y hc,aDZ,K2 w ht]
theorem wP{Ty:List (Nat×TyI)}(hT:TyOK P Ty)(h:aHa (bN Ty t)=true): ∃ms,P.underlying t=some (.interface ms):=by
 unfold aHa at h;split at h
 ·rename_i i hi;split at h
  ·rename_i hu;obtain⟨u,h1,h2⟩:=hT _ _ hi;simp only [TyI.is,hu] at h2;obtain⟨m,rfl⟩:=h2;exact⟨m,h1.1⟩
  cases h
 cases h
theorem aHB{Ty:List (Nat×TyI)}(hT:TyOK P Ty){op:BinOp}{x y:Operand}{t':TypeId}{a b:V}{hs hs':List Hn}{v:V}{φ:List Ob}(h:aHC Ty op t x y a b hs=some (v,φ,hs')):
  Yield P H ⟨d,.binOp op t x y t',ty,pos,af,g⟩ [a,b] v:=by
 unfold aHC at h;split at h
 ·rename_i h1 h2;obtain⟨ms,ht⟩:=wP hT h1;cases h;exact aKm _ _ _ ht
 ·rename_i h1 h2;obtain⟨ms,ht⟩:=wP hT h1;cases h;exact aKl _ _ _ ht
 ·rename_i h1 h2;obtain⟨ms,ht⟩:=wP hT h1;cases h;exact aKj _ _ _ ht h2
 ·rename_i h1 h2;obtain⟨ms,ht⟩:=wP hT h1;cases h;exact aKi _ _ _ ht h2
 cases h
theorem G1(w:World)(n:Nat){e}(a:Addr)(l c:Nat)(ht:P.underlying t=some (.slice e)):(Op.equalIn (n+1) t (.slice (some a) l c) (.slice none 0 0)).run P w= .ok false w:=by simp [Op.equalIn,run_underlying ht]
theorem aHS(w:World){e}(a:Addr)(l c:Nat)(ht:P.underlying t=some (.slice e)):(Op.equal t (.slice (some a) l c) (.slice none 0 0)).run P w= .ok false w:=G1 w 9999 a l c ht
theorem aH3(a:Addr)(l c:Nat):binOp .eql t (.slice (some a) l c) (.slice none 0 0)=(do pure (.bool (←Op.equal t (.slice (some a) l c) (.slice none 0 0)))):=rfl
theorem aIm(x y:Operand)(t':TypeId)(rows:List (List T)){e}(ht:P.underlying t=some (.slice e))(hr:rows≠[]):Yield P H ⟨d,.binOp .eql t x y t',ty,pos,af,g⟩ [.t (.sl rows),.t .nilS] (.t (.bool false)):=by
 intro β w X ρ _ ha;obtain⟨a,l,c,h1⟩: ∃a l c,ρ x= .slice (some a) l c:=by
  cases ha.1 with|t _ _ h=>
  generalize hu:ρ x=u at h;cases h with
  |sl0=>exact absurd rfl hr
  |sl _ b off size cap f=>exact⟨_,_,_,rfl⟩
 have h2:ρ y= .slice none 0 0:=by
  cases ha.2.1 with|t _ _ h=>
  generalize hu:ρ y=u at h;cases h;rfl
 refine⟨.bool false,?_,.t _ _ (.bool _)⟩;simp [execOp,h1,h2,eqGuard,aH3,aHS w a l c ht]
theorem aHq{Ty:List (Nat×TyI)}(hT:TyOK P Ty){op:BinOp}{x y:Operand}{t':TypeId}{a b:V}{hs hs':List Hn}{v:V}{φ:List Ob}(h:aHr Ty op t a b hs=some (v,φ,hs'))(hφ:Obs φ):
  Yield P H ⟨d,.binOp op t x y t',ty,pos,af,g⟩ [a,b] v:=by
 unfold aHr at h;split at h
 ·rename_i h1;obtain⟨e,ht⟩:=wO hT h1;cases h;exact aIm _ _ _ _ ht hφ.1
 cases h
theorem aA3(x y:Operand)(e n id off k:Nat){u:TypeDesc}{z:Value}{size bytes:Nat}(ht:P.underlying t=some (.array n e))(he:TI P e u z size bytes)(hi:k<n):
  Yield P H ⟨d,.indexAddr t x y,ty,pos,af,g⟩ [.ref id off,.t (.int .i64 (k:Int))] (.ref id (off+k*size)):=by intro β w X ρ hE ha;have hn:=aX ha.2.1;obtain⟨b,hb,hx⟩:=qD ha.1;refine⟨.pointer (some ⟨b,off+k*size,none⟩),?_,.ref _ _ _ hb⟩;simp [execOp,hx,hn,Instr.indexAt,asIntOf,run_underlying ht,he.run_sizeOf,cW,Instr.sureAddr];intro h;omega
theorem aHO(hT:TyOK P Ty){op:BinOp}{x y:Operand}{t t':TypeId}{a b:V}{hs hs':List Hn}{v:V}{φ:List Ob}(h:aHP P Ty op t a b hs=some (v,φ,hs'))(hφ:Obs φ):
  Yield P H ⟨d,.binOp op t x y t',ty,pos,af,g⟩ [a,b] v:=by
 unfold aHP at h;split at h
 ·split at h
  ·rename_i hk;subst hk;exact aHz h hφ
  cases h
 ·exact aHo h hφ
 ·split at h
  ·rename_i hb;cases h;exact aKo _ _ _ _ _ (V5 hT hb)
  ·rename_i hb;cases h;exact aKn _ _ _ _ _ (V5 hT hb)
  cases h
 ·split at h
  ·rename_i ms ns b hs h1 h2;cases h;obtain⟨p1,p2,p3,_⟩:=hφ;rw [o4 h1,o4 h2,←p3];exact aF6 _ _ _ _ ms ns p1 (by simp) (by simp [p2])
  ·rename_i ms ns b hs h1 h2;cases h;obtain⟨p1,p2,p3,_⟩:=hφ;rw [o4 h1,o4 h2,←p3];exact aF4 _ _ _ _ ms ns p1 (by simp) (by simp [p2])
  cases h
 cases h
theorem aJv{op:UnOp}{x:Operand}{a:V}{hs hs':List Hn}{v:V}{φ:List Ob}(h:aK6 op a hs=some (v,φ,hs')):
  Yield P H ⟨d,.unOp op t x,ty,pos,af,g⟩ [a] v:=by
 unfold aK6 at h;split at h<;>cases h
 ·exact aLy _ _ _
 exact aLA _ _ _ _
theorem aBw(hT:TyOK P Ty){i:TyI}(hi:bN Ty t=some i)(h:I3 Ty (some i)=true): ∃e,P.underlying t=some (.slice e)∧P.underlying e=some (.int .u8):=by
 unfold I3 at h;split at h
 ·rename_i i' hii;cases hii;split at h
  ·rename_i e hu;split at h
   ·rename_i j hj;split at h
    ·rename_i hu2;exact⟨e,(hT _ _ hi).und.2.2.2 e hu,(hT _ _ hj).und.2.1 _ hu2⟩
    cases h
   cases h
  cases h
 cases h
theorem aFC(hT:TyOK P Ty){src dst:TypeId}{x:Operand}{a:V}{hs hs':List Hn}{v:V}{φ:List Ob}(h:aDv Ty src dst a hs=some (v,φ,hs'))(hφ:Obs φ):
  Yield P H ⟨d,.convert src dst x,ty,pos,af,g⟩ [a] v:=by
 unfold aDv at h;split at h
 ·rename_i i j hi hj;split at h
  ·rename_i k' k n m hs hu;cases h;obtain⟨us,hus,_⟩:=hT _ _ hi;have hp:k'.wrap n=m:=hφ.1;rw [←hp];exact aF7 _ _ _ _ _ us _ hus.1 ((hT _ _ hj).und.2.1 _ hu)
  ·rename_i k n m hs hu;cases h;have hp:UInt8.ofInt n=m:=hφ.1;rw [←hp];obtain⟨us,hus,_⟩:=hT _ _ hi
   have:=aF7 (P:=P) (H:=H) (d:=d) (ty:=ty) (pos:=pos) (af:=af) (g:=g) x src dst k .u8 us n hus.1 ((hT _ _ hj).und.2.1 _ hu);rw [aIq] at this;exact this
  ·rename_i rows l hs hu;split at h
   ·rename_i hb;cases h;have hp:rows=l.map mG:=hφ.1;obtain⟨e,h1,h2⟩:=aBw hT hi hb;rw [hp];exact aA6 _ _ _ _ _ h1 h2 ((hT _ _ hj).und.2.2.1 hu)
   cases h
  cases h
 cases h
theorem X7(x:Operand)(id gen i off:Nat)(ty':TypeId)(sz:Nat)(rows:List (List T))(row:List T)(ht:TI P t u z size bytes)(hu:vN u=true)(hH:H id=some (.arr ty' gen sz rows))(hr:rows[i]? =some row)(hc:off+size≤row.length):
  Yield P H ⟨d,.load t x,ty,pos,af,g⟩ [.eref id gen sz i off] (.agg (((row.drop off).take size).map .t)):=by
 intro β w X ρ hE ha;obtain⟨q,hq⟩:=iJ (hE id _ hH);obtain⟨b,hb0,hx⟩:=iO ha.1 hq;subst hb0;have hb:=hq;rcases(hE id _ hH).2 with ⟨h1,h2⟩|⟨b',us,h1,h2,h3,h4,h5⟩
 ·rw [h2] at hr;simp at hr
 rw [hb] at h1;cases h1;have hi:i<rows.length:=(b7.1 hr).1;have hrl:row.length=sz:=h4 row (dF hr);have hlt: ∀j,j<size→i*sz+off+j<us.size:=by
  intro j hj
  have:(i+1)*sz≤rows.length*sz:=lU _ hi;rw [mX] at this;omega
 have hcell: ∀j,j<size→w.cell? ⟨b,i*sz+off+j,none⟩=some (us.getD (i*sz+off+j) undef):=fun j hj=>by
  have:=hlt j hj;simp [World.cell?,h2,this]
 refine⟨_,by simp [execOp,hx,Instr.loadAt,Instr.sureAddr,ht.run_loadVarN w hu hcell];rfl,?_⟩;refine .agg _ _ (by simp;omega) fun j c v hc' hv=>?_;have hj:j<size:=by
  have:=(b7.1 hc').1;simp at this;omega
 rw [yE,vBo hj,N7] at hc';simp only [List.getElem?_toArray,List.getElem?_map,List.getElem?_range hj,Option.map_some,Option.some.injEq] at hv;cases hx2:row[off+j]? with
 |none=>rw [hx2] at hc';simp at hc'
 |some x2=>
  rw [hx2] at hc';simp at hc';rw [←hc']
  have:=hlt j hj;have h6:=h5 i (off+j) row x2 us[i*sz+off+j] hr hx2 (by rw [←vBq];simp [this]);rw [←hv];simp only [Array.getElem?_eq_getElem this,Option.getD_some];exact .t _ _ h6
theorem W6(hT:TyOK P Ty){x:Operand}{a:V}{hs hs':List Hn}{v:V}{φ:List Ob}(h:zC Ty H t a hs=some (v,φ,hs'))(hφ:Obs φ):
  Yield P H ⟨d,.load t x,ty,pos,af,g⟩ [a] v:=by
 unfold zC at h;split at h
 ·cases h
 rename_i i hi;obtain⟨tu,ht,hag⟩:=(hT _ _ hi).agg;split at h
 ·rename_i id off;split at h
  ·rename_i cs hH;split at h
   ·rename_i ha;split at h
    ·rename_i hle;cases h;exact aIn _ _ _ _ ht (hag.trans ha) hH hle
    cases h
   rename_i ha;split at h
   ·rename_i c hc;cases h;exact aIo _ _ _ _ _ ht (hag.trans ha) hH hc
   cases h
  cases h
 ·rename_i cs;split at h
  ·rename_i ha;split at h
   ·rename_i hle;cases h;exact aCA _ _ ht (hag.trans ha) (rE hle)
   cases h
  rename_i ha;split at h
  ·cases h;exact aCB _ _ _ ht (hag.trans ha)
  cases h
 ·rename_i id gen sz k off;split at h
  ·rename_i gen' sz' rows r hs hH ha;split at h
   ·rename_i c hc;cases h;obtain⟨rfl,rfl,hr,_⟩:=hφ;exact X8 _ _ _ _ _ _ _ _ _ _ ht (hag.trans ha) hH hr hc
   cases h
  ·rename_i gen' sz' rows r hs hH ha;split at h
   ·rename_i hle;cases h;obtain⟨rfl,rfl,hr,_⟩:=hφ;exact X7 _ _ _ _ _ _ _ _ _ ht (hag.trans ha) hH hr (rE hle)
   cases h
  cases h
 cases h
theorem J5{j:Nat}: ∀{hs:List (Nat×Nat×V)},J6 j hs=none→ ∀i v,(i,j,v)∉hs
 | [],_,_,_,h=>by cases h
 |h::hs,hf,i,v,hm=>by
  simp only [J6] at hf;cases hb:Nat.beq h.2.1 j with
  |true=>rw [hb] at hf;cases hf
  |false=>
   rw [hb] at hf;rcases pP.1 hm with rfl|hm
   ·simp at hb
   exact J5 hf i v hm
theorem uX{j:Nat}{x:Nat×V}: ∀{hs:List (Nat×Nat×V)},J6 j hs=some x→(x.1,j,x.2)∈hs
 |h::hs,hf=>by
  simp only [J6] at hf;cases hb:Nat.beq h.2.1 j with
  |true=>
   rw [hb] at hf;cases hf
   have:=fP hb;subst this;exact yF
  |false=>rw [hb] at hf;exact uF _ (uX hf)
theorem o9{ho:List (Nat×Nat×V)}{k:Nat}: ∀{n j:Nat} {l:List (Nat×V)},uW ho j n=some l→Obs (I5 k l)→l.length=n∧ ∀i v,(l.map (·.2))[i]? =some v→(k,j+i,v)∈ho
 |0,_,_,h,_=>by cases h;exact⟨rfl,fun i v h=>by simp at h⟩
 |n+1,j,l,h,hφ=>by
  simp only [uW] at h;split at h
  ·rename_i x l' h1 h2;cases h;simp only [I5] at hφ;obtain⟨e,hφ⟩:=hφ;obtain⟨a1,a2⟩:=o9 h2 hφ;refine⟨by simp [a1],fun i v hv=>?_⟩;cases i with
   |zero=>
    simp at hv;subst hv
    have:=uX h1;rw [e] at this;exact this
   |succ i=>
    have:=a2 i v (by simpa using hv)
    rwa [show j+1+i=j+(i+1) by omega] at this
  cases h
theorem aDq(hT:TyOK P Ty){x:Operand}{a:V}{hs hs':List Hn}{v:V}{φ:List Ob}(h:aAo Ty H t a hs=some (v,φ,hs'))(hφ:Obs φ):
  Yield P H ⟨d,.load t x,ty,pos,af,g⟩ [a] v:=by
 unfold aAo at h;split at h
 ·rename_i i id gen sz k off r hs hi;obtain⟨tu,ht,hag⟩:=(hT _ _ hi).agg;split at h
  ·rename_i Γ m gen' rows ho hH;split at h
   ·rename_i ha;split at h
    ·rename_i c hc hf;split at h
     ·rename_i hk;cases h;obtain⟨rfl,hz,hr,_⟩:=hφ;exact nJ _ _ _ _ _ Γ m _ rows ho r c _ ht (hag.trans ha) hH hz hr hc (.inr ⟨fun v=>J5 hf _ _,hk,rfl⟩)
     cases h
    ·rename_i c i' v' hc hf;cases h;obtain⟨rfl,hz,hr,rfl,_⟩:=hφ;exact nJ _ _ _ _ _ Γ m _ rows _ r c _ ht (hag.trans ha) hH hz hr hc (.inl (uX hf))
    cases h
   rename_i ha;split at h
   ·rename_i l hl hf;cases h;obtain⟨rfl,hz,hr,hq⟩:=hφ;obtain⟨b1,b2⟩:=o9 hf hq;exact vQ _ _ _ _ _ Γ m _ rows ho r _ ht (hag.trans ha) hH hz hr (rE hl) (by simp [b1]) b2
   cases h
  cases h
 ·rename_i i id gen sz k off q r hs hi;obtain⟨tu,ht,hag⟩:=(hT _ _ hi).agg;split at h
  ·rename_i Γ m gen' rows ho hH;split at h
   ·rename_i c i' j' v' ha hc hq;cases h;obtain⟨rfl,hz,hr,rfl,rfl,_⟩:=hφ;exact nJ _ _ _ _ _ Γ m _ rows _ r c _ ht (hag.trans ha) hH hz hr hc (.inl (dF hq))
   ·rename_i ha;split at h
    ·rename_i l hl hf;cases h;obtain⟨rfl,hz,hr,hq⟩:=hφ;obtain⟨b1,b2⟩:=o9 hf hq;exact vQ _ _ _ _ _ Γ m _ rows ho r _ ht (hag.trans ha) hH hz hr (rE hl) (by simp [b1]) fun j v hv=>vAL (b2 j v hv)
    cases h
   cases h
  cases h
 ·rename_i i id gen sz k off q r hs hi;obtain⟨tu,ht,hag⟩:=(hT _ _ hi).agg;split at h
  ·rename_i Γ m gen' rows ho hH;split at h
   ·rename_i c ha hc hk;cases h;obtain⟨rfl,hz,hr,hq⟩:=hφ;exact nJ _ _ _ _ _ Γ m _ rows _ r c _ ht (hag.trans ha) hH hz hr hc (.inr ⟨wM hq,hk,rfl⟩)
   cases h
  cases h
 cases h
theorem aDt(hT:TyOK P Ty){k:Nat}{x:Operand}{a:V}{hs hs':List Hn}{v:V}{φ:List Ob}(h:aAq Ty H t k a hs=some (v,φ,hs'))(hφ:Obs φ):
  Yield P H ⟨d,.fieldAddr t x k,ty,pos,af,g⟩ [a] v:=by
 unfold aAq at h;split at h
 ·cases h
 rename_i i hi;split at h
 ·rename_i fs hu;obtain⟨rfs,hst,hfs,_⟩:=(hT _ _ hi).st hu;have ht:P.underlying t=some (.struct rfs):=hst.1;split at h
  ·cases h
  rename_i fld0 hf0;rw [←hfs,yE] at hf0;cases hf:rfs[k]? with
  |none=>rw [vBz,hf] at hf0;cases hf0
  |some fld=>
  rw [vBz,hf] at hf0;simp only [Option.map_some,Option.some.injEq] at hf0;subst hf0;split at h
  ·cases h
  rename_i j hj;obtain⟨ju,htf,_⟩:=hT _ _ hj;split at h
  ·cases h
  rename_i hz;have hz':(j.size==0)=false:=by
   rw [beq_eq_false_iff_ne];intro e;rw [e] at hz;cases hz
  split at h
  ·cases h;exact aA4 _ _ _ _ _ _ _ _ _ _ _ ht hf rfl htf hz'
  ·cases h;exact aCE _ _ _ _ _ _ _ _ _ _ ht hf rfl htf hz'
  ·split at h
   ·rename_i hH;cases h;obtain⟨rfl,rfl,_⟩:=hφ;exact Y0 _ _ _ _ _ _ _ _ _ _ _ _ _ _ ht hf rfl htf hz' _ _ hH
   ·rename_i hH;cases h;obtain⟨rfl,_⟩:=hφ;exact Y1 _ _ _ _ _ _ _ _ _ _ _ _ _ _ ht hf rfl htf hz' _ hH rfl
   cases h
  cases h
 cases h
theorem aHH(hT:TyOK P Ty){k:Nat}{x:Operand}{a:V}{hs hs':List Hn}{v:V}{φ:List Ob}(h:aHI Ty t k a hs=some (v,φ,hs')):
  Yield P H ⟨d,.field t x k,ty,pos,af,g⟩ [a] v:=by
 unfold aHI at h;split at h
 ·cases h
 rename_i i hi;split at h
 ·rename_i fs hu;obtain⟨rfs,hst,hfs,_⟩:=(hT _ _ hi).st hu;split at h
  ·cases h
  rename_i fld0 hf0;rw [←hfs,yE] at hf0;cases hf:rfs[k]? with
  |none=>rw [vBz,hf] at hf0;cases hf0
  |some fld=>
  rw [vBz,hf] at hf0;simp only [Option.map_some,Option.some.injEq] at hf0;subst hf0;split at h
  ·cases h
  rename_i j hj;obtain⟨ju,htf,hag⟩:=(hT _ _ hj).agg;split at h
  ·split at h
   ·rename_i ha;split at h
    ·rename_i hb;cases h;exact aA5 _ _ _ _ _ _ hst hf htf (.inl ⟨hag.trans ha,hb,rfl⟩)
    cases h
   rename_i ha;split at h
   ·rename_i hv;cases h;exact aA5 _ _ _ _ _ _ hst hf htf (.inr ⟨hag.trans ha,hv⟩)
   cases h
  cases h
 cases h
theorem bU{n:Int}(h:0≤n):n=((n.toNat:Nat):Int):=by omega
theorem aHD(hT:TyOK P Ty){x y:Operand}{a b:V}{hs hs':List Hn}{v:V}{φ:List Ob}(h:aHE Ty H t a b hs=some (v,φ,hs'))(hφ:Obs φ):
  Yield P H ⟨d,.indexAddr t x y,ty,pos,af,g⟩ [a,b] v:=by
 unfold aHE at h;split at h
 ·cases h
 rename_i i hi;split at h
 ·rename_i e hu;have ht:P.underlying t=some (.slice e):=(hT _ _ hi).und.2.2.2 e hu;split at h
  ·cases h
  rename_i j hj;obtain⟨ju,he,_⟩:=hT _ _ hj;split at h
  ·rename_i rows n;split at h
   ·rename_i r hs;split at h
    ·rename_i hl;cases h;obtain⟨h1,h2⟩:=qC (show ix rows n=some r from hφ.1);rw [bU h1];exact aCD _ _ _ _ _ _ ht he h2 (fP hl)
    cases h
   cases h
  ·rename_i id gen size off len n;split at h
   ·rename_i gen' sz' rows hH hl;cases h;obtain⟨rfl,rfl,⟨h1,h2⟩,_⟩:=hφ;have hn:n.toNat<len:=by omega
    have:=fP hl;subst this;have hq:=aA2 (P:=P) (H:=H) (d:=d) (ty:=ty) (pos:=pos) (af:=af) (g:=g) x y e id gen' off len n.toNat _ _ hH ht he hn;rw [←bU h1] at hq;exact hq
   ·rename_i m gen' rows hs0 hH hl;cases h;obtain⟨rfl,⟨h1,h2⟩,_⟩:=hφ;have hn:n.toNat<len:=by omega
    have:=fP hl;subst this;have hq:=X9 (P:=P) (H:=H) (d:=d) (ty:=ty) (pos:=pos) (af:=af) (g:=g) x y e id _ off len n.toNat _ hH rfl ht he hn;rw [←bU h1] at hq;exact hq
   cases h
  cases h
 ·rename_i m e hu;obtain⟨u0,htu,hiu⟩:=hT _ _ hi;have ht:P.underlying t=some (.array m e):=by
   simp only [TyI.is,hu] at hiu;rw [←hiu];exact htu.1
  split at h
  ·cases h
  rename_i j hj;obtain⟨ju,he,_⟩:=hT _ _ hj;split at h
  ·rename_i id off n k hs;split at h
   ·rename_i hl;cases h;rw [show n=(k:Int) from hφ.1];exact aA3 _ _ _ _ _ _ _ ht he (rE hl)
   cases h
  cases h
 cases h
theorem aDs(hT:TyOK P Ty){x y:Operand}{a b:V}{hs hs':List Hn}{v:V}{φ:List Ob}(h:aAp Ty t a b hs=some (v,φ,hs'))(hφ:Obs φ):
  Yield P H ⟨d,.index t x y,ty,pos,af,g⟩ [a,b] v:=by
 unfold aAp at h;split at h
 ·rename_i l n c hs hb;cases h;obtain⟨h1,h2⟩:=qC (show ix l n=some c from hφ.1);rw [bU h1];exact aF3 _ _ _ _ _ (yW hT hb) h2
 cases h
theorem aHw(hT:TyOK P Ty){x:Operand}{a:V}{hs hs':List Hn}{v:V}{φ:List Ob}(h:aHx Ty H t a hs=some (v,φ,hs'))(hφ:Obs φ):
  Yield P H ⟨d,.call {callee:= .builtin .len,args:= #[x],argTypes:= #[t]},ty,pos,af,g⟩ [a] v:=by
 unfold aHx at h;split at h
 ·split at h
  ·rename_i hb;cases h;exact aE2 _ _ (yW hT hb)
  cases h
 ·split at h
  ·rename_i hb;cases h;obtain⟨e,he⟩:=wO hT hb;have hp:=hφ.1;rw [←hp];exact aF5 _ _ _ he
  cases h
 ·split at h
  ·rename_i hH hb;cases h;obtain⟨rfl,rfl,rfl,_⟩:=hφ;obtain⟨e,he⟩:=wO hT hb;exact aE3 _ _ _ _ _ _ _ he _ _ hH
  ·rename_i hH hb;cases h;obtain⟨rfl,rfl,_⟩:=hφ;obtain⟨e,he⟩:=wO hT hb;exact aCC _ _ _ _ _ _ _ he _ hH rfl
  cases h
 cases h
theorem aDo(hT:TyOK P Ty){x:Operand}{lo hi:Option Operand}{vals:List V}{hs hs':List Hn}{v:V}{φ:List Ob}(h:aAn Ty H t lo hi vals hs=some (v,φ,hs'))(hφ:Obs φ):
  Yield P H ⟨d,.slice t x lo hi none,ty,pos,af,g⟩ vals v:=by
 unfold aAn at h;split at h
 ·rename_i l ws;split at h
  ·rename_i a b r hs hs1 hb;cases h;obtain⟨h1,h2,h3,rfl⟩:=v6 hφ.1;have ht:=yW hT hs1;unfold K0 at hb;split at hb
   ·cases hb;rw [bU h1,bU (show 0≤b by omega)];exact aAY _ _ _ _ _ _ ht (by omega) (by omega)
   ·cases hb
    have:=xP (P:=P) (H:=H) (d:=d) (ty:=ty) (pos:=pos) (af:=af) (g:=g) x ‹_› l a.toNat ht (by omega);rw [←bU h1] at this;simpa using this
   ·cases hb
    have:=D5 (P:=P) (H:=H) (d:=d) (ty:=ty) (pos:=pos) (af:=af) (g:=g) x ‹_› l b.toNat ht (by omega);rw [←bU (show 0≤b by omega)] at this;simpa using this
   cases hb
  cases h
 ·rename_i rows ws;split at h
  ·cases h
  rename_i i hi0;split at h
  ·rename_i e hu;have ht:P.underlying t=some (.slice e):=(hT _ _ hi0).und.2.2.2 e hu;split at h
   ·rename_i j a b r hs hj hb;cases h;obtain⟨h0,hr,_⟩:=hφ;obtain⟨h1,h2,h3,rfl⟩:=v6 h0;obtain⟨ju,he,_⟩:=hT _ _ hj;unfold K0 at hb;split at hb
    ·cases hb;rw [bU h1,bU (show 0≤b by omega)];exact aCx _ _ _ _ _ _ _ ht he (by omega) (by omega) hr
    ·cases hb
     have:=A4 (P:=P) (H:=H) (d:=d) (ty:=ty) (pos:=pos) (af:=af) (g:=g) x ‹_› e rows a.toNat ht he (by omega) hr;rw [←bU h1] at this;simpa using this
    ·cases hb
     have:=O4 (P:=P) (H:=H) (d:=d) (ty:=ty) (pos:=pos) (af:=af) (g:=g) x ‹_› e rows b.toNat ht he (by omega) hr;rw [←bU (show 0≤b by omega)] at this;simpa using this
    cases hb
   cases h
  cases h
 ·rename_i id gn sz off len ws;split at h
  ·rename_i i g' hi0 hg;split at h
   ·rename_i e hu;have ht:P.underlying t=some (.slice e):=(hT _ _ hi0).und.2.2.2 e hu;obtain⟨en,hH,hg⟩:=vBr.1 hg;have hbd: ∀{a b:Int},K0 lo hi len ws=some (a,b)→0≤a→0≤b→ ∀β w X (ρ:Operand→Value),RVs β w X ws (lo.toList.map ρ++hi.toList.map ρ)→aCs len lo hi ρ a.toNat b.toNat:=by
     intro a b hb h0 h1 β w X ρ hr;unfold K0 at hb;split at hb
     ·cases hb;refine⟨?_,?_⟩
      ·show ρ _=_;rw [vBC h0];exact aX hr.1
      show ρ _=_;rw [vBC h1];exact aX hr.2.1
     ·cases hb;refine⟨?_,by show _=_;simp⟩;show ρ _=_;rw [vBC h0];exact aX hr.1
     ·cases hb;refine⟨by show _=_;simp,?_⟩;show ρ _=_;rw [vBC h1];exact aX hr.1
     cases hb
    split at h
    ·rename_i j a b o m hs hj hb;cases h;obtain⟨rfl,rfl,⟨h1,h2,h3,h4,rfl,rfl⟩,_⟩:=hφ;obtain⟨ju,he,_⟩:=hT _ _ hj;exact aKb x lo hi e id _ off len a.toNat b.toNat en hH hg ht he (by omega) (by omega) (by omega) (hbd hb h1 (by omega))
    ·rename_i j a b hs hj hb;cases h;obtain⟨rfl,⟨h1,rfl,h3⟩,_⟩:=hφ;obtain⟨ju,he,_⟩:=hT _ _ hj;exact aIl x lo hi e id _ _ off len a.toNat en hH hg ht he (by omega) (hbd hb h1 h1)
    ·rename_i j a b o m hs hj hb;split at h
     ·rename_i hrows;cases h;obtain⟨rfl,rfl,rfl,⟨h0,h1,h2,h3,rfl,rfl⟩,_⟩:=hφ;obtain⟨ju,he,_⟩:=hT _ _ hj;exact aIk x lo hi e _ id _ off len a.toNat b.toNat _ hrows ht he h0 (by omega) (by omega) (hbd hb h1 (by omega))
     cases h
    cases h
   cases h
  cases h
 cases h
theorem aBK(hT:TyOK P Ty){x lo hi mx:Operand}{vals:List V}{hs hs':List Hn}{v:V}{φ:List Ob}(h:J9 Ty H t vals hs=some (v,φ,hs'))(hφ:Obs φ):
  Yield P H ⟨d,.slice t x (some lo) (some hi) (some mx),ty,pos,af,g⟩ vals v:=by
 unfold J9 at h;split at h
 ·rename_i id gn sz off len a b c;split at h
  ·rename_i i g' hi0 hg;split at h
   ·rename_i e hu;have ht:P.underlying t=some (.slice e):=(hT _ _ hi0).und.2.2.2 e hu;obtain⟨en,hH,hg⟩:=vBr.1 hg;split at h
    ·rename_i j hj;cases h;obtain⟨rfl,⟨h1,h2,h3,h4⟩,_⟩:=hφ;obtain⟨ju,he,_⟩:=hT _ _ hj;rw [bU h1,bU (show 0≤b by omega),bU (show 0≤c by omega)];exact aF2 x lo hi mx e id _ _ off len a.toNat b.toNat c.toNat en hH hg ht he (by omega) (by omega) (by omega)
    cases h
   cases h
  cases h
 cases h
theorem aFD(hT:TyOK P Ty){x hi mx:Operand}{vals:List V}{hs hs':List Hn}{v:V}{φ:List Ob}(h:aDw Ty t vals hs=some (v,φ,hs'))(hφ:Obs φ):
  Yield P H ⟨d,.slice t x none (some hi) (some mx),ty,pos,af,g⟩ vals v:=by
 unfold aDw at h;split at h
 ·split at h
  ·rename_i i hi0;split at h
   ·rename_i e hu;have ht:P.underlying t=some (.slice e):=(hT _ _ hi0).und.2.2.2 e hu;split at h
    ·rename_i j hj;cases h;obtain⟨⟨h0,rfl⟩,hr,_⟩:=hφ;obtain⟨h1,h2,h3,rfl⟩:=v6 h0;obtain⟨ju,he,_⟩:=hT _ _ hj
     have:=X5 (P:=P) (H:=H) (d:=d) (ty:=ty) (pos:=pos) (af:=af) (g:=g) x hi mx e _ _ ht he (Int.toNat_le.2 h3) hr;rw [←bU h2] at this;simpa using this
    cases h
   cases h
  cases h
 cases h
theorem aAs(hT:TyOK P Ty){b:Builtin}{tys:List TypeId}{xs:List Operand}{vals:List V}{hs hs':List Hn}{v:V}{φ:List Ob}(h:zD Ty H b tys xs vals hs=some (v,φ,hs'))(hφ:Obs φ):
  Yield P H ⟨d,.call {callee:= .builtin b,args:=xs.toArray,argTypes:=tys.toArray},ty,pos,af,g⟩ vals v:=by
 unfold zD at h;split at h
 ·exact aHw hT h hφ
 ·split at h
  ·rename_i hk;subst hk;cases h;exact aLD _ _ _ _ _ _
  cases h
 ·split at h
  ·rename_i hk;subst hk;cases h;exact aLC _ _ _ _ _ _
  cases h
 cases h
theorem aHs{x:Operand}{a:V}{hs hs':List Hn}{v:V}{φ:List Ob}(h:aHt H a hs=some (v,φ,hs'))(hφ:Obs φ):Yield P H ⟨d,.nilCheck x,ty,pos,af,g⟩ [a] v:=by
 unfold aHt at h;split at h
 ·split at h
  ·rename_i g' hg;cases h;obtain⟨rfl,_⟩:=hφ;obtain⟨en,hH,hg⟩:=vBr.1 hg;exact aA1 _ _ _ _ _ _ en hH hg
  cases h
 ·cases h;exact D6 _ _ rfl
 ·cases h;exact D6 _ _ rfl
 ·cases h;exact aA0 _ _ _
 cases h
theorem aDz(hT:TyOK P Ty){ps:Array (Nat×Operand)}{vals:List V}{hs hs':List Hn}{v:V}{φ:List Ob}(h:aAt Ty t (ps.toList.map (·.1)) vals hs=some (v,φ,hs')):
  Yield P H ⟨d,.build t ps,ty,pos,af,g⟩ vals v:=by
 unfold aAt at h;split at h
 ·cases h
 rename_i i hi;split at h
 ·rename_i fs hu;split at h
  ·rename_i cs h1 h2 h3;cases h;obtain⟨rfs,hst,_,hpl⟩:=(hT _ _ hi).st hu;exact aIp ps rfs i.places vals cs hst hpl h1 (by simpa using h2) h3
  cases h
 cases h
theorem aK5(hT:TyOK P Ty){op:Op}{vals:List V}{hs hs':List Hn}{v:V}{φ:List Ob}(h:evV P Ty H op vals hs=some (v,φ,hs'))(hφ:Obs φ):
  Yield P H ⟨d,op,ty,pos,af,g⟩ vals v:=by
 unfold evV at h;split at h
 ·split at h
  ·cases h;exact aKk _ _
  cases h
 ·split at h
  ·cases h;exact aF8 _ _
  cases h
 ·split at h
  ·rename_i b v w c hs;cases h;obtain⟨hb,_⟩:=hφ;subst hb;cases b
   ·exact X6 _ _ _ _ _
   exact aAZ _ _ _ _ _
  cases h
 ·split at h
  ·split at h
   ·rename_i hl;cases h;exact W6 hT hl hφ
   exact aDq hT h hφ
  cases h
 ·split at h
  ·exact aHs h hφ
  cases h
 ·split at h
  ·split at h
   ·rename_i r hr;cases h;exact aHO hT hr hφ
   split at h
   ·rename_i r hr;cases h;exact aHB hT hr
   exact aHq hT h hφ
  cases h
 ·split at h
  ·exact aJv h
  cases h
 ·split at h
  ·exact aFC hT h hφ
  cases h
 ·rename_i fn first caps
  split at h
  ·rename_i f hf;cases h
   have:first= #[]:=by simpa using hf
   subst this;exact aCz _ _ _
  cases h
 ·split at h
  ·exact aDo hT h hφ
  split at h
  ·exact aBK hT h hφ
  ·exact aFD hT h hφ
  cases h
 ·split at h
  ·exact aDt hT h hφ
  cases h
 ·split at h
  ·exact aHH hT h
  cases h
 ·split at h
  ·exact aHD hT h hφ
  cases h
 ·split at h
  ·exact aDs hT h hφ
  cases h
 ·split at h
  ·split at h
   ·rename_i hk;cases h;exact aE4 _ _ _ _ hk
   cases h
  cases h
 ·exact aDz hT h
 ·rename_i c;obtain⟨callee,args,tys⟩:=c;dsimp only at h;split at h
  ·have:=aAs (d:=d) (ty:=ty) (pos:=pos) (af:=af) (g:=g) hT h hφ;simpa using this
  cases h
 cases h
end
end Go.Lift
