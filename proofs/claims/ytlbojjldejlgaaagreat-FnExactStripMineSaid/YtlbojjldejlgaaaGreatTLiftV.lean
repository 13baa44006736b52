/- The evaluator of values is right. -/
import Derived.Test.YtlbojjldejlgaaaGreatTLiftU
namespace Go.Lift
open Go
section
variable {P:Program} {Ty:List (Nat×TyI)} {H:Nat→Option E} {d:Option Tmp} {ty:TypeId} {pos:String} {af:Array Edge} {g:Option (Nat×Bool)}
variable {t:TypeId} {u:TypeDesc} {z:Value} {size bytes:Nat}
theorem aAC(op:BinOp)(hb:aIw op=true)(x y:Operand)(t t':TypeId)(k:IntKind)(m n:Int):Yield P H ⟨d,.binOp op t x y t',ty,pos,af,g⟩ [.t (.int k m),.t (.int k n)] (.t (.int k (bits op k m n))):=by
 intro β w X ρ _ ha;refine⟨Value.int k (bits op k m n),?_,.t _ _ (.int k _)⟩;cases op<;>simp [aIw] at hb<;>
  simp [execOp,aW ha.1,aW ha.2.1,eqGuard,binOp,intBits_and,intBits_or,intBits_xor,intBits_andNot]
theorem aK0(x y:Operand)(t t':TypeId)(m n:List UInt8):Yield P H ⟨d,.binOp .lss t x y t',ty,pos,af,g⟩ [.t (.str m),.t (.str n)] (.t (.bool (Op.bytesLess m n))):=by intro β w X ρ _ ha;refine⟨.bool (Op.bytesLess m n),?_,.t _ _ (.bool _)⟩;simp [execOp,cV ha.1,cV ha.2.1,eqGuard,binOp,Op.stringOp]
theorem aK2(x y:Operand)(t t':TypeId)(m n:List UInt8):Yield P H ⟨d,.binOp .gtr t x y t',ty,pos,af,g⟩ [.t (.str m),.t (.str n)] (.t (.bool (!Op.bytesLess m n&& !m==n))):=by intro β w X ρ _ ha;refine⟨.bool (!Op.bytesLess m n&& !m==n),?_,.t _ _ (.bool _)⟩;simp [execOp,cV ha.1,cV ha.2.1,eqGuard,binOp,Op.stringOp]
theorem aK1(x y:Operand)(t t':TypeId)(m n:List UInt8):Yield P H ⟨d,.binOp .leq t x y t',ty,pos,af,g⟩ [.t (.str m),.t (.str n)] (.t (.bool (Op.bytesLess m n||m==n))):=by intro β w X ρ _ ha;refine⟨.bool (Op.bytesLess m n||m==n),?_,.t _ _ (.bool _)⟩;simp [execOp,cV ha.1,cV ha.2.1,eqGuard,binOp,Op.stringOp]
theorem aMt(x:Operand)(t:TypeId)(k:IntKind)(n:Int):Yield P H ⟨d,.unOp .neg t x,ty,pos,af,g⟩ [.t (.int k n)] (.t (.int k (k.wrap (0-n)))):=by intro β w X ρ _ ha;refine⟨.int k (k.wrap (0-n)),?_,.t _ _ (.int _ _)⟩;simp [execOp,aW ha.1,Op.unary,Op.intArith]
theorem aBH(x:Operand)(f:FuncId)(cs:List V):Yield P H ⟨d,.nilCheck x,ty,pos,af,g⟩ [.fn f cs] (.fn f cs):=by intro β w X ρ _ ha;have h1:RV β w X (.fn f cs) (ρ x):=ha.1;refine⟨ρ x,?_,h1⟩;generalize hx:ρ x=y at h1;cases h1 with|fn=>simp [execOp,hx]
theorem aIi{op:BinOp}{x y:Operand}{t t':TypeId}{k:IntKind}{m n:Int}{hs hs':List Hn}{v:V}{φ:List Ob}(h:aIj op k m n hs=some (v,φ,hs'))(hφ:Obs φ):
  Yield P H ⟨d,.binOp op t x y t',ty,pos,af,g⟩ [.t (.int k m),.t (.int k n)] v:=by
 cases op<;>simp only [aIj,aKM,Option.some.injEq,Prod.mk.injEq,reduceCtorEq] at h<;>obtain⟨rfl,rfl,rfl⟩:=h
 ·exact aMD _ _ _ _ _ _ _
 ·exact aMo _ _ _ _ _ _ _
 ·exact aMu _ _ _ _ _ _ _
 ·exact aMq _ _ _ _ _ _ _ hφ.1
 ·exact aMp _ _ _ _ _ _ _ hφ.1
 ·exact aAC .and rfl _ _ _ _ _ _ _
 ·exact aAC .or rfl _ _ _ _ _ _ _
 ·exact aAC .xor rfl _ _ _ _ _ _ _
 ·exact aAC .andNot rfl _ _ _ _ _ _ _
 ·exact aMB _ _ _ _ _ _ _
 ·exact aMs _ _ _ _ _ _ _
 ·exact aMx _ _ _ _ _ _ _
 ·exact aMy _ _ _ _ _ _ _
 ·exact aMz _ _ _ _ _ _ _
 exact aMA _ _ _ _ _ _ _
theorem aH7{op:BinOp}{x y:Operand}{t t':TypeId}{m n:List UInt8}{hs hs':List Hn}{v:V}{φ:List Ob}(h:aH8 op m n hs=some (v,φ,hs'))(hφ:Obs φ):
  Yield P H ⟨d,.binOp op t x y t',ty,pos,af,g⟩ [.t (.str m),.t (.str n)] v:=by
 unfold aH8 at h;split at h<;>cases h
 ·obtain⟨h1,rfl⟩:=aIJ hφ.1;exact aMC _ _ _ _ _ _ h1
 ·exact aK4 _ _ _ _ _ _
 ·exact aKZ _ _ _ _ _ _
 ·exact aK3 _ _ _ _ _ _
 ·exact aK0 _ _ _ _ _ _
 ·exact aK2 _ _ _ _ _ _
 exact aK1 _ _ _ _ _ _
theorem aAc(hT:TyOK P Ty)(h:aD2 (bM Ty t)=true):P.underlying t=some .bool:=by
 unfold aD2 at h;split at h
 ·rename_i i hi;split at h
  ·rename_i hu;exact(hT _ _ hi).und.1 hu
  cases h
 cases h
theorem zX(hT:TyOK P Ty)(h:L8 (bM Ty t)=true):P.underlying t=some .string:=by
 unfold L8 at h;split at h
 ·rename_i i hi;split at h
  ·rename_i hu;exact(hT _ _ hi).und.2.2.1 hu
  cases h
 cases h
theorem xK(hT:TyOK P Ty)(h:aCi (bM Ty t)=true): ∃e,P.underlying t=some (.slice e):=by
 unfold aCi at h;split at h
 ·rename_i i hi;split at h
  ·rename_i e hu;exact⟨e,(hT _ _ hi).und.2.2.2 e hu⟩
  cases h
 cases h
theorem pH{β:Map}{w:World}{X:Nat→Prop}{u:Value}(h:RV β w X (.t .nilI) u):u= .nilIface:=by cases h with|t _ _ h=>cases h with|nilI=>rfl
theorem aFs{β:Map}{w:World}{X:Nat→Prop}{u:Value}(h:RV β w X (.t .err) u): ∃t v,u= .iface t v:=by cases h with|t _ _ h=>cases h with|err t v=>exact⟨t,v,rfl⟩
theorem E2(w:World)(n:Nat){ms}(a:TypeId)(b:Value)(ht:P.underlying t=some (.interface ms)):(Op.equalIn (n+1) t (.iface a b) .nilIface).run P w= .ok false w:=by simp [Op.equalIn,run_underlying ht]
theorem zK(w:World)(n:Nat){ms}(ht:P.underlying t=some (.interface ms)):(Op.equalIn (n+1) t .nilIface .nilIface).run P w= .ok true w:=by simp [Op.equalIn,run_underlying ht]
theorem aAq(w:World){ms}(a:TypeId)(b:Value)(ht:P.underlying t=some (.interface ms)):(Op.equal t (.iface a b) .nilIface).run P w= .ok false w:=E2 w 9999 a b ht
theorem N9(w:World){ms}(ht:P.underlying t=some (.interface ms)):(Op.equal t .nilIface .nilIface).run P w= .ok true w:=zK w 9999 ht
theorem aEM(a b):binOp .eql t (.iface a b) .nilIface=(do pure (.bool (←Op.equal t (.iface a b) .nilIface))):=rfl
theorem aEL(a b):binOp .neq t (.iface a b) .nilIface=(do pure (.bool (!(←Op.equal t (.iface a b) .nilIface)))):=rfl
theorem aEK:binOp .eql t .nilIface .nilIface=(do pure (.bool (←Op.equal t .nilIface .nilIface))):=rfl
theorem aEJ:binOp .neq t .nilIface .nilIface=(do pure (.bool (!(←Op.equal t .nilIface .nilIface)))):=rfl
theorem aAr(w:World)(o:BinOp)(x y:Operand)(hc:(isC x||isC y)=true):(eqGuard o t x y .nilIface .nilIface).run P w= .ok () w:=by cases x<;>cases y<;>simp [isC] at hc<;>simp [eqGuard]<;>split<;>simp
theorem aK9(x y:Operand)(t':TypeId){ms}(ht:P.underlying t=some (.interface ms)):Yield P H ⟨d,.binOp .eql t x y t',ty,pos,af,g⟩ [.t .err,.t .nilI] (.t (.bool false)):=by intro β w X ρ _ ha;obtain⟨a,b,h1⟩:=aFs ha.1;refine⟨.bool false,?_,.t _ _ (.bool _)⟩;simp [execOp,h1,pH ha.2.1,eqGuard,aEM,aAq w a b ht]
theorem aK8(x y:Operand)(t':TypeId){ms}(ht:P.underlying t=some (.interface ms)):Yield P H ⟨d,.binOp .neq t x y t',ty,pos,af,g⟩ [.t .err,.t .nilI] (.t (.bool true)):=by intro β w X ρ _ ha;obtain⟨a,b,h1⟩:=aFs ha.1;refine⟨.bool true,?_,.t _ _ (.bool _)⟩;simp [execOp,h1,pH ha.2.1,eqGuard,aEL,aAq w a b ht]
theorem aK6(x y:Operand)(t':TypeId){ms}(ht:P.underlying t=some (.interface ms))(hc:(isC x||isC y)=true):Yield P H ⟨d,.binOp .eql t x y t',ty,pos,af,g⟩ [.t .nilI,.t .nilI] (.t (.bool true)):=by intro β w X ρ _ ha;refine⟨.bool true,?_,.t _ _ (.bool _)⟩;simp [execOp,pH ha.1,pH ha.2.1,aAr w _ x y hc,aEK,N9 w ht]
theorem aK5(x y:Operand)(t':TypeId){ms}(ht:P.underlying t=some (.interface ms))(hc:(isC x||isC y)=true):Yield P H ⟨d,.binOp .neq t x y t',ty,pos,af,g⟩ [.t .nilI,.t .nilI] (.t (.bool false)):=by intro β w X ρ _ ha;refine⟨.bool false,?_,.t _ _ (.bool _)⟩;simp [execOp,pH ha.1,pH ha.2.1,aAr w _ x y hc,aEJ,N9 w ht]
theorem xL{Ty:List (Nat×TyI)}(hT:TyOK P Ty)(h:aHR (bM Ty t)=true): ∃ms,P.underlying t=some (.interface ms):=by
 unfold aHR at h;split at h
 ·rename_i i hi;split at h
  ·rename_i hu;obtain⟨u,h1,h2⟩:=hT _ _ hi;simp only [TyI.is,hu] at h2;obtain⟨m,rfl⟩:=h2;exact⟨m,h1.1⟩
  cases h
 cases h
theorem aIk{Ty:List (Nat×TyI)}(hT:TyOK P Ty){op:BinOp}{x y:Operand}{t':TypeId}{a b:V}{hs hs':List Hn}{v:V}{φ:List Ob}(h:aIl Ty op t x y a b hs=some (v,φ,hs')):
  Yield P H ⟨d,.binOp op t x y t',ty,pos,af,g⟩ [a,b] v:=by
 unfold aIl at h;split at h
 ·rename_i h1 h2;obtain⟨ms,ht⟩:=xL hT h1;cases h;exact aK9 _ _ _ ht
 ·rename_i h1 h2;obtain⟨ms,ht⟩:=xL hT h1;cases h;exact aK8 _ _ _ ht
 ·rename_i h1 h2;obtain⟨ms,ht⟩:=xL hT h1;cases h;exact aK6 _ _ _ ht h2
 ·rename_i h1 h2;obtain⟨ms,ht⟩:=xL hT h1;cases h;exact aK5 _ _ _ ht h2
 cases h
theorem J7(w:World)(n:Nat){e}(a:Addr)(l c:Nat)(ht:P.underlying t=some (.slice e)):(Op.equalIn (n+1) t (.slice (some a) l c) (.slice none 0 0)).run P w= .ok false w:=by simp [Op.equalIn,run_underlying ht]
theorem aIB(w:World){e}(a:Addr)(l c:Nat)(ht:P.underlying t=some (.slice e)):(Op.equal t (.slice (some a) l c) (.slice none 0 0)).run P w= .ok false w:=J7 w 9999 a l c ht
theorem aIO(a:Addr)(l c:Nat):binOp .eql t (.slice (some a) l c) (.slice none 0 0)=(do pure (.bool (←Op.equal t (.slice (some a) l c) (.slice none 0 0)))):=rfl
theorem aI8(x y:Operand)(t':TypeId)(rows:List (List T)){e}(ht:P.underlying t=some (.slice e))(hr:rows≠[]):Yield P H ⟨d,.binOp .eql t x y t',ty,pos,af,g⟩ [.t (.sl rows),.t .nilS] (.t (.bool false)):=by
 intro β w X ρ _ ha;obtain⟨a,l,c,h1⟩: ∃a l c,ρ x= .slice (some a) l c:=by
  cases ha.1 with|t _ _ h=>
  generalize hu:ρ x=u at h;cases h with
  |sl0=>exact absurd rfl hr
  |sl _ b off size cap f=>exact⟨_,_,_,rfl⟩
 have h2:ρ y= .slice none 0 0:=by
  cases ha.2.1 with|t _ _ h=>
  generalize hu:ρ y=u at h;cases h;rfl
 refine⟨.bool false,?_,.t _ _ (.bool _)⟩;simp [execOp,h1,h2,eqGuard,aIO,aIB w a l c ht]
theorem aH9{Ty:List (Nat×TyI)}(hT:TyOK P Ty){op:BinOp}{x y:Operand}{t':TypeId}{a b:V}{hs hs':List Hn}{v:V}{φ:List Ob}(h:aIa Ty op t a b hs=some (v,φ,hs'))(hφ:Obs φ):
  Yield P H ⟨d,.binOp op t x y t',ty,pos,af,g⟩ [a,b] v:=by
 unfold aIa at h;split at h
 ·rename_i h1;obtain⟨e,ht⟩:=xK hT h1;cases h;exact aI8 _ _ _ _ ht hφ.1
 cases h
theorem aBK(x y:Operand)(e n id off k:Nat){u:TypeDesc}{z:Value}{size bytes:Nat}(ht:P.underlying t=some (.array n e))(he:TI P e u z size bytes)(hi:k<n):
  Yield P H ⟨d,.indexAddr t x y,ty,pos,af,g⟩ [.ref id off,.t (.int .i64 (k:Int))] (.ref id (off+k*size)):=by intro β w X ρ hE ha;have hn:=aW ha.2.1;obtain⟨b,hb,hx⟩:=qY ha.1;refine⟨.pointer (some ⟨b,off+k*size,none⟩),?_,.ref _ _ _ hb⟩;simp [execOp,hx,hn,Instr.indexAt,asIntOf,run_underlying ht,he.run_sizeOf,cY,Instr.sureAddr];intro h;omega
theorem aIx(hT:TyOK P Ty){op:BinOp}{x y:Operand}{t t':TypeId}{a b:V}{hs hs':List Hn}{v:V}{φ:List Ob}(h:aIy P Ty op t a b hs=some (v,φ,hs'))(hφ:Obs φ):
  Yield P H ⟨d,.binOp op t x y t',ty,pos,af,g⟩ [a,b] v:=by
 unfold aIy at h;split at h
 ·split at h
  ·rename_i hk;subst hk;exact aIi h hφ
  cases h
 ·exact aH7 h hφ
 ·split at h
  ·rename_i hb;cases h;exact aLb _ _ _ _ _ (aAc hT hb)
  ·rename_i hb;cases h;exact aLa _ _ _ _ _ (aAc hT hb)
  cases h
 ·split at h
  ·rename_i ms ns b hs h1 h2;cases h;obtain⟨p1,p2,p3,_⟩:=hφ;rw [pI h1,pI h2,←p3];exact aGK _ _ _ _ ms ns p1 (by simp) (by simp [p2])
  ·rename_i ms ns b hs h1 h2;cases h;obtain⟨p1,p2,p3,_⟩:=hφ;rw [pI h1,pI h2,←p3];exact aGI _ _ _ _ ms ns p1 (by simp) (by simp [p2])
  cases h
 cases h
theorem aKi{op:UnOp}{x:Operand}{a:V}{hs hs':List Hn}{v:V}{φ:List Ob}(h:aLW op a hs=some (v,φ,hs')):
  Yield P H ⟨d,.unOp op t x,ty,pos,af,g⟩ [a] v:=by
 unfold aLW at h;split at h<;>cases h
 ·exact aMr _ _ _
 exact aMt _ _ _ _
theorem aCj(hT:TyOK P Ty){i:TyI}(hi:bM Ty t=some i)(h:M0 Ty (some i)=true): ∃e,P.underlying t=some (.slice e)∧P.underlying e=some (.int .u8):=by
 unfold M0 at h;split at h
 ·rename_i i' hii;cases hii;split at h
  ·rename_i e hu;split at h
   ·rename_i j hj;split at h
    ·rename_i hu2;exact⟨e,(hT _ _ hi).und.2.2.2 e hu,(hT _ _ hj).und.2.1 _ hu2⟩
    cases h
   cases h
  cases h
 cases h
theorem aGj(hT:TyOK P Ty){src dst:TypeId}{x:Operand}{a:V}{hs hs':List Hn}{v:V}{φ:List Ob}(h:aEg Ty src dst a hs=some (v,φ,hs'))(hφ:Obs φ):
  Yield P H ⟨d,.convert src dst x,ty,pos,af,g⟩ [a] v:=by
 unfold aEg at h;split at h
 ·rename_i i j hi hj;split at h
  ·rename_i k' k n m hs hu;cases h;obtain⟨us,hus,_⟩:=hT _ _ hi;have hp:k'.wrap n=m:=hφ.1;rw [←hp];exact aGL _ _ _ _ _ us _ hus.1 ((hT _ _ hj).und.2.1 _ hu)
  ·rename_i k n m hs hu;cases h;have hp:UInt8.ofInt n=m:=hφ.1;rw [←hp];obtain⟨us,hus,_⟩:=hT _ _ hi
   have:=aGL (P:=P) (H:=H) (d:=d) (ty:=ty) (pos:=pos) (af:=af) (g:=g) x src dst k .u8 us n hus.1 ((hT _ _ hj).und.2.1 _ hu);rw [aJc] at this;exact this
  ·rename_i rows l hs hu;split at h
   ·rename_i hb;cases h;have hp:rows=l.map mX:=hφ.1;obtain⟨e,h1,h2⟩:=aCj hT hi hb;rw [hp];exact aBN _ _ _ _ _ h1 h2 ((hT _ _ hj).und.2.2.1 hu)
   cases h
  cases h
 cases h
theorem aAx(x:Operand)(id gen i off:Nat)(ty':TypeId)(sz:Nat)(rows:List (List T))(row:List T)(ht:TI P t u z size bytes)(hu:wO u=true)(hH:H id=some (.arr ty' gen sz rows))(hr:rows[i]? =some row)(hc:off+size≤row.length):
  Yield P H ⟨d,.load t x,ty,pos,af,g⟩ [.eref id gen sz i off] (.agg (((row.drop off).take size).map .t)):=by
 intro β w X ρ hE ha;obtain⟨q,hq⟩:=gG (hE id _ hH);obtain⟨b,hb0,hx⟩:=iQ ha.1 hq;subst hb0;have hb:=hq;rcases(hE id _ hH).2 with ⟨h1,h2⟩|⟨b',us,h1,h2,h3,h4,h5⟩
 ·rw [h2] at hr;simp at hr
 rw [hb] at h1;cases h1;have hi:i<rows.length:=(cC.1 hr).1;have hrl:row.length=sz:=h4 row (dD hr);have hlt: ∀j,j<size→i*sz+off+j<us.size:=by
  intro j hj
  have:(i+1)*sz≤rows.length*sz:=jL _ hi;rw [jJ] at this;omega
 have hcell: ∀j,j<size→w.cell? ⟨b,i*sz+off+j,none⟩=some (us.getD (i*sz+off+j) undef):=fun j hj=>by
  have:=hlt j hj;simp [World.cell?,h2,this]
 refine⟨_,by simp [execOp,hx,Instr.loadAt,Instr.sureAddr,ht.run_loadVarN w hu hcell];rfl,?_⟩;refine .agg _ _ (by simp;omega) fun j c v hc' hv=>?_;have hj:j<size:=by
  have:=(cC.1 hc').1;simp at this;omega
 rw [zG,vBs hj,D9] at hc';simp only [List.getElem?_toArray,List.getElem?_map,List.getElem?_range hj,Option.map_some,Option.some.injEq] at hv;cases hx2:row[off+j]? with
 |none=>rw [hx2] at hc';simp at hc'
 |some x2=>
  rw [hx2] at hc';simp at hc';rw [←hc']
  have:=hlt j hj;have h6:=h5 i (off+j) row x2 us[i*sz+off+j] hr hx2 (by rw [←vBq];simp [this]);rw [←hv];simp only [Array.getElem?_eq_getElem this,Option.getD_some];exact .t _ _ h6
theorem aAo(hT:TyOK P Ty){x:Operand}{a:V}{hs hs':List Hn}{v:V}{φ:List Ob}(h:A3 Ty H t a hs=some (v,φ,hs'))(hφ:Obs φ):
  Yield P H ⟨d,.load t x,ty,pos,af,g⟩ [a] v:=by
 unfold A3 at h;split at h
 ·cases h
 rename_i i hi;obtain⟨tu,ht,hag⟩:=(hT _ _ hi).agg;split at h
 ·rename_i id off;split at h
  ·rename_i cs hH;split at h
   ·rename_i ha;split at h
    ·rename_i hle;cases h;exact aI9 _ _ _ _ ht (hag.trans ha) hH hle
    cases h
   rename_i ha;split at h
   ·rename_i c hc;cases h;exact aJa _ _ _ _ _ ht (hag.trans ha) hH hc
   cases h
  cases h
 ·rename_i cs;split at h
  ·rename_i ha;split at h
   ·rename_i hle;cases h;exact aDn _ _ ht (hag.trans ha) (rZ hle)
   cases h
  rename_i ha;split at h
  ·cases h;exact aDo _ _ _ ht (hag.trans ha)
  cases h
 ·rename_i id gen sz k off;split at h
  ·rename_i gen' sz' rows r hs hH ha;split at h
   ·rename_i c hc;cases h;obtain⟨rfl,rfl,hr,_⟩:=hφ;exact aAy _ _ _ _ _ _ _ _ _ _ ht (hag.trans ha) hH hr hc
   cases h
  ·rename_i gen' sz' rows r hs hH ha;split at h
   ·rename_i hle;cases h;obtain⟨rfl,rfl,hr,_⟩:=hφ;exact aAx _ _ _ _ _ _ _ _ _ ht (hag.trans ha) hH hr (rZ hle)
   cases h
  cases h
 cases h
theorem N2{j:Nat}: ∀{hs:List (Nat×Nat×V)},N3 j hs=none→ ∀i v,(i,j,v)∉hs
 | [],_,_,_,h=>by cases h
 |h::hs,hf,i,v,hm=>by
  simp only [N3] at hf;cases hb:Nat.beq h.2.1 j with
  |true=>rw [hb] at hf;cases hf
  |false=>
   rw [hb] at hf;rcases qE.1 hm with rfl|hm
   ·simp at hb
   exact N2 hf i v hm
theorem wC{j:Nat}{x:Nat×V}: ∀{hs:List (Nat×Nat×V)},N3 j hs=some x→(x.1,j,x.2)∈hs
 |h::hs,hf=>by
  simp only [N3] at hf;cases hb:Nat.beq h.2.1 j with
  |true=>
   rw [hb] at hf;cases hf
   have:=fV hb;subst this;exact uX
  |false=>rw [hb] at hf;exact r9 _ (wC hf)
theorem pO{ho:List (Nat×Nat×V)}{k:Nat}: ∀{n j:Nat} {l:List (Nat×V)},wB ho j n=some l→Obs (M2 k l)→l.length=n∧ ∀i v,(l.map (·.2))[i]? =some v→(k,j+i,v)∈ho
 |0,_,_,h,_=>by cases h;exact⟨rfl,fun i v h=>by simp at h⟩
 |n+1,j,l,h,hφ=>by
  simp only [wB] at h;split at h
  ·rename_i x l' h1 h2;cases h;simp only [M2] at hφ;obtain⟨e,hφ⟩:=hφ;obtain⟨a1,a2⟩:=pO h2 hφ;refine⟨by simp [a1],fun i v hv=>?_⟩;cases i with
   |zero=>
    simp at hv;subst hv
    have:=wC h1;rw [e] at this;exact this
   |succ i=>
    have:=a2 i v (by simpa using hv)
    rwa [show j+1+i=j+(i+1) by omega] at this
  cases h
theorem aEb(hT:TyOK P Ty){x:Operand}{a:V}{hs hs':List Hn}{v:V}{φ:List Ob}(h:aA9 Ty H t a hs=some (v,φ,hs'))(hφ:Obs φ):
  Yield P H ⟨d,.load t x,ty,pos,af,g⟩ [a] v:=by
 unfold aA9 at h;split at h
 ·rename_i i id gen sz k off r hs hi;obtain⟨tu,ht,hag⟩:=(hT _ _ hi).agg;split at h
  ·rename_i Γ m gen' rows ho hH;split at h
   ·rename_i ha;split at h
    ·rename_i c hc hf;split at h
     ·rename_i hk;cases h;obtain⟨rfl,hz,hr,_⟩:=hφ;exact nW _ _ _ _ _ Γ m _ rows ho r c _ ht (hag.trans ha) hH hz hr hc (.inr ⟨fun v=>N2 hf _ _,hk,rfl⟩)
     cases h
    ·rename_i c i' v' hc hf;cases h;obtain⟨rfl,hz,hr,rfl,_⟩:=hφ;exact nW _ _ _ _ _ Γ m _ rows _ r c _ ht (hag.trans ha) hH hz hr hc (.inl (wC hf))
    cases h
   rename_i ha;split at h
   ·rename_i l hl hf;cases h;obtain⟨rfl,hz,hr,hq⟩:=hφ;obtain⟨b1,b2⟩:=pO hf hq;exact wR _ _ _ _ _ Γ m _ rows ho r _ ht (hag.trans ha) hH hz hr (rZ hl) (by simp [b1]) b2
   cases h
  cases h
 ·rename_i i id gen sz k off q r hs hi;obtain⟨tu,ht,hag⟩:=(hT _ _ hi).agg;split at h
  ·rename_i Γ m gen' rows ho hH;split at h
   ·rename_i c i' j' v' ha hc hq;cases h;obtain⟨rfl,hz,hr,rfl,rfl,_⟩:=hφ;exact nW _ _ _ _ _ Γ m _ rows _ r c _ ht (hag.trans ha) hH hz hr hc (.inl (dD hq))
   ·rename_i ha;split at h
    ·rename_i l hl hf;cases h;obtain⟨rfl,hz,hr,hq⟩:=hφ;obtain⟨b1,b2⟩:=pO hf hq;exact wR _ _ _ _ _ Γ m _ rows ho r _ ht (hag.trans ha) hH hz hr (rZ hl) (by simp [b1]) fun j v hv=>vAB (b2 j v hv)
    cases h
   cases h
  cases h
 ·rename_i i id gen sz k off q r hs hi;obtain⟨tu,ht,hag⟩:=(hT _ _ hi).agg;split at h
  ·rename_i Γ m gen' rows ho hH;split at h
   ·rename_i c ha hc hk;cases h;obtain⟨rfl,hz,hr,hq⟩:=hφ;exact nW _ _ _ _ _ Γ m _ rows _ r c _ ht (hag.trans ha) hH hz hr hc (.inr ⟨xI hq,hk,rfl⟩)
   cases h
  cases h
 cases h
theorem aEe(hT:TyOK P Ty){k:Nat}{x:Operand}{a:V}{hs hs':List Hn}{v:V}{φ:List Ob}(h:aBb Ty H t k a hs=some (v,φ,hs'))(hφ:Obs φ):
  Yield P H ⟨d,.fieldAddr t x k,ty,pos,af,g⟩ [a] v:=by
 unfold aBb at h;split at h
 ·cases h
 rename_i i hi;split at h
 ·rename_i fs hu;obtain⟨rfs,hst,hfs,_⟩:=(hT _ _ hi).st hu;have ht:P.underlying t=some (.struct rfs):=hst.1;split at h
  ·cases h
  rename_i fld0 hf0;rw [←hfs,zG] at hf0;cases hf:rfs[k]? with
  |none=>rw [vBE,hf] at hf0;cases hf0
  |some fld=>
  rw [vBE,hf] at hf0;simp only [Option.map_some,Option.some.injEq] at hf0;subst hf0;split at h
  ·cases h
  rename_i j hj;obtain⟨ju,htf,_⟩:=hT _ _ hj;split at h
  ·cases h
  rename_i hz;have hz':(j.size==0)=false:=by
   rw [beq_eq_false_iff_ne];intro e;rw [e] at hz;cases hz
  split at h
  ·cases h;exact aBL _ _ _ _ _ _ _ _ _ _ _ ht hf rfl htf hz'
  ·cases h;exact aDr _ _ _ _ _ _ _ _ _ _ ht hf rfl htf hz'
  ·split at h
   ·rename_i hH;cases h;obtain⟨rfl,rfl,_⟩:=hφ;exact aAA _ _ _ _ _ _ _ _ _ _ _ _ _ _ ht hf rfl htf hz' _ _ hH
   ·rename_i hH;cases h;obtain⟨rfl,_⟩:=hφ;exact aAB _ _ _ _ _ _ _ _ _ _ _ _ _ _ ht hf rfl htf hz' _ hH rfl
   cases h
  cases h
 cases h
theorem aIq(hT:TyOK P Ty){k:Nat}{x:Operand}{a:V}{hs hs':List Hn}{v:V}{φ:List Ob}(h:aIr Ty t k a hs=some (v,φ,hs')):
  Yield P H ⟨d,.field t x k,ty,pos,af,g⟩ [a] v:=by
 unfold aIr at h;split at h
 ·cases h
 rename_i i hi;split at h
 ·rename_i fs hu;obtain⟨rfs,hst,hfs,_⟩:=(hT _ _ hi).st hu;split at h
  ·cases h
  rename_i fld0 hf0;rw [←hfs,zG] at hf0;cases hf:rfs[k]? with
  |none=>rw [vBE,hf] at hf0;cases hf0
  |some fld=>
  rw [vBE,hf] at hf0;simp only [Option.map_some,Option.some.injEq] at hf0;subst hf0;split at h
  ·cases h
  rename_i j hj;obtain⟨ju,htf,hag⟩:=(hT _ _ hj).agg;split at h
  ·split at h
   ·rename_i ha;split at h
    ·rename_i hb;cases h;exact aBM _ _ _ _ _ _ hst hf htf (.inl ⟨hag.trans ha,hb,rfl⟩)
    cases h
   rename_i ha;split at h
   ·rename_i hv;cases h;exact aBM _ _ _ _ _ _ hst hf htf (.inr ⟨hag.trans ha,hv⟩)
   cases h
  cases h
 cases h
theorem bY{n:Int}(h:0≤n):n=((n.toNat:Nat):Int):=by omega
theorem aIm(hT:TyOK P Ty){x y:Operand}{a b:V}{hs hs':List Hn}{v:V}{φ:List Ob}(h:aIn Ty H t a b hs=some (v,φ,hs'))(hφ:Obs φ):
  Yield P H ⟨d,.indexAddr t x y,ty,pos,af,g⟩ [a,b] v:=by
 unfold aIn at h;split at h
 ·cases h
 rename_i i hi;split at h
 ·rename_i e hu;have ht:P.underlying t=some (.slice e):=(hT _ _ hi).und.2.2.2 e hu;split at h
  ·cases h
  rename_i j hj;obtain⟨ju,he,_⟩:=hT _ _ hj;split at h
  ·rename_i rows n;split at h
   ·rename_i r hs;split at h
    ·rename_i hl;cases h;obtain⟨h1,h2⟩:=qX (show ix rows n=some r from hφ.1);rw [bY h1];exact aDq _ _ _ _ _ _ ht he h2 (fV hl)
    cases h
   cases h
  ·rename_i id gen size off len n;split at h
   ·rename_i gen' sz' rows hH hl;cases h;obtain⟨rfl,rfl,⟨h1,h2⟩,_⟩:=hφ;have hn:n.toNat<len:=by omega
    have:=fV hl;subst this;have hq:=aBJ (P:=P) (H:=H) (d:=d) (ty:=ty) (pos:=pos) (af:=af) (g:=g) x y e id gen' off len n.toNat _ _ hH ht he hn;rw [←bY h1] at hq;exact hq
   ·rename_i m gen' rows hs0 hH hl;cases h;obtain⟨rfl,⟨h1,h2⟩,_⟩:=hφ;have hn:n.toNat<len:=by omega
    have:=fV hl;subst this;have hq:=aAz (P:=P) (H:=H) (d:=d) (ty:=ty) (pos:=pos) (af:=af) (g:=g) x y e id _ off len n.toNat _ hH rfl ht he hn;rw [←bY h1] at hq;exact hq
   cases h
  cases h
 ·rename_i m e hu;obtain⟨u0,htu,hiu⟩:=hT _ _ hi;have ht:P.underlying t=some (.array m e):=by
   simp only [TyI.is,hu] at hiu;rw [←hiu];exact htu.1
  split at h
  ·cases h
  rename_i j hj;obtain⟨ju,he,_⟩:=hT _ _ hj;split at h
  ·rename_i id off n k hs;split at h
   ·rename_i hl;cases h;rw [show n=(k:Int) from hφ.1];exact aBK _ _ _ _ _ _ _ ht he (rZ hl)
   cases h
  cases h
 cases h
theorem aEd(hT:TyOK P Ty){x y:Operand}{a b:V}{hs hs':List Hn}{v:V}{φ:List Ob}(h:aBa Ty t a b hs=some (v,φ,hs'))(hφ:Obs φ):
  Yield P H ⟨d,.index t x y,ty,pos,af,g⟩ [a,b] v:=by
 unfold aBa at h;split at h
 ·rename_i l n c hs hb;cases h;obtain⟨h1,h2⟩:=qX (show ix l n=some c from hφ.1);rw [bY h1];exact aGH _ _ _ _ _ (zX hT hb) h2
 cases h
theorem aIf(hT:TyOK P Ty){x:Operand}{a:V}{hs hs':List Hn}{v:V}{φ:List Ob}(h:aIg Ty H t a hs=some (v,φ,hs'))(hφ:Obs φ):
  Yield P H ⟨d,.call {callee:= .builtin .len,args:= #[x],argTypes:= #[t]},ty,pos,af,g⟩ [a] v:=by
 unfold aIg at h;split at h
 ·split at h
  ·rename_i hb;cases h;exact aFL _ _ (zX hT hb)
  cases h
 ·split at h
  ·rename_i hb;cases h;obtain⟨e,he⟩:=xK hT hb;have hp:=hφ.1;rw [←hp];exact aGJ _ _ _ he
  cases h
 ·split at h
  ·rename_i hH hb;cases h;obtain⟨rfl,rfl,rfl,_⟩:=hφ;obtain⟨e,he⟩:=xK hT hb;exact aFM _ _ _ _ _ _ _ he _ _ hH
  ·rename_i hH hb;cases h;obtain⟨rfl,rfl,_⟩:=hφ;obtain⟨e,he⟩:=xK hT hb;exact aDp _ _ _ _ _ _ _ he _ hH rfl
  cases h
 cases h
theorem aD9(hT:TyOK P Ty){x:Operand}{lo hi:Option Operand}{vals:List V}{hs hs':List Hn}{v:V}{φ:List Ob}(h:aA8 Ty H t lo hi vals hs=some (v,φ,hs'))(hφ:Obs φ):
  Yield P H ⟨d,.slice t x lo hi none,ty,pos,af,g⟩ vals v:=by
 unfold aA8 at h;split at h
 ·rename_i l ws;split at h
  ·rename_i a b r hs hs1 hb;cases h;obtain⟨h1,h2,h3,rfl⟩:=w4 hφ.1;have ht:=zX hT hs1;unfold N7 at hb;split at hb
   ·cases hb;rw [bY h1,bY (show 0≤b by omega)];exact aBF _ _ _ _ _ _ ht (by omega) (by omega)
   ·cases hb
    have:=yS (P:=P) (H:=H) (d:=d) (ty:=ty) (pos:=pos) (af:=af) (g:=g) x ‹_› l a.toNat ht (by omega);rw [←bY h1] at this;simpa using this
   ·cases hb
    have:=H4 (P:=P) (H:=H) (d:=d) (ty:=ty) (pos:=pos) (af:=af) (g:=g) x ‹_› l b.toNat ht (by omega);rw [←bY (show 0≤b by omega)] at this;simpa using this
   cases hb
  cases h
 ·rename_i rows ws;split at h
  ·cases h
  rename_i i hi0;split at h
  ·rename_i e hu;have ht:P.underlying t=some (.slice e):=(hT _ _ hi0).und.2.2.2 e hu;split at h
   ·rename_i j a b r hs hj hb;cases h;obtain⟨h0,hr,_⟩:=hφ;obtain⟨h1,h2,h3,rfl⟩:=w4 h0;obtain⟨ju,he,_⟩:=hT _ _ hj;unfold N7 at hb;split at hb
    ·cases hb;rw [bY h1,bY (show 0≤b by omega)];exact aDk _ _ _ _ _ _ _ ht he (by omega) (by omega) hr
    ·cases hb
     have:=D6 (P:=P) (H:=H) (d:=d) (ty:=ty) (pos:=pos) (af:=af) (g:=g) x ‹_› e rows a.toNat ht he (by omega) hr;rw [←bY h1] at this;simpa using this
    ·cases hb
     have:=S2 (P:=P) (H:=H) (d:=d) (ty:=ty) (pos:=pos) (af:=af) (g:=g) x ‹_› e rows b.toNat ht he (by omega) hr;rw [←bY (show 0≤b by omega)] at this;simpa using this
    cases hb
   cases h
  cases h
 ·rename_i id gn sz off len ws;split at h
  ·rename_i i g' hi0 hg;split at h
   ·rename_i e hu;have ht:P.underlying t=some (.slice e):=(hT _ _ hi0).und.2.2.2 e hu;obtain⟨en,hH,hg⟩:=vBu.1 hg;have hbd: ∀{a b:Int},N7 lo hi len ws=some (a,b)→0≤a→0≤b→ ∀β w X (ρ:Operand→Value),RVs β w X ws (lo.toList.map ρ++hi.toList.map ρ)→aDh len lo hi ρ a.toNat b.toNat:=by
     intro a b hb h0 h1 β w X ρ hr;unfold N7 at hb;split at hb
     ·cases hb;refine⟨?_,?_⟩
      ·show ρ _=_;rw [vBH h0];exact aW hr.1
      show ρ _=_;rw [vBH h1];exact aW hr.2.1
     ·cases hb;refine⟨?_,by show _=_;simp⟩;show ρ _=_;rw [vBH h0];exact aW hr.1
     ·cases hb;refine⟨by show _=_;simp,?_⟩;show ρ _=_;rw [vBH h1];exact aW hr.1
     cases hb
    split at h
    ·rename_i j a b o m hs hj hb;cases h;obtain⟨rfl,rfl,⟨h1,h2,h3,h4,rfl,rfl⟩,_⟩:=hφ;obtain⟨ju,he,_⟩:=hT _ _ hj;exact aKY x lo hi e id _ off len a.toNat b.toNat en hH hg ht he (by omega) (by omega) (by omega) (hbd hb h1 (by omega))
    ·rename_i j a b hs hj hb;cases h;obtain⟨rfl,⟨h1,rfl,h3⟩,_⟩:=hφ;obtain⟨ju,he,_⟩:=hT _ _ hj;exact aI7 x lo hi e id _ _ off len a.toNat en hH hg ht he (by omega) (hbd hb h1 h1)
    ·rename_i j a b o m hs hj hb;split at h
     ·rename_i hrows;cases h;obtain⟨rfl,rfl,rfl,⟨h0,h1,h2,h3,rfl,rfl⟩,_⟩:=hφ;obtain⟨ju,he,_⟩:=hT _ _ hj;exact aI6 x lo hi e _ id _ off len a.toNat b.toNat _ hrows ht he h0 (by omega) (by omega) (hbd hb h1 (by omega))
     cases h
    cases h
   cases h
  cases h
 cases h
theorem aCw(hT:TyOK P Ty){x lo hi mx:Operand}{vals:List V}{hs hs':List Hn}{v:V}{φ:List Ob}(h:N6 Ty H t vals hs=some (v,φ,hs'))(hφ:Obs φ):
  Yield P H ⟨d,.slice t x (some lo) (some hi) (some mx),ty,pos,af,g⟩ vals v:=by
 unfold N6 at h;split at h
 ·rename_i id gn sz off len a b c;split at h
  ·rename_i i g' hi0 hg;split at h
   ·rename_i e hu;have ht:P.underlying t=some (.slice e):=(hT _ _ hi0).und.2.2.2 e hu;obtain⟨en,hH,hg⟩:=vBu.1 hg;split at h
    ·rename_i j hj;cases h;obtain⟨rfl,⟨h1,h2,h3,h4⟩,_⟩:=hφ;obtain⟨ju,he,_⟩:=hT _ _ hj;rw [bY h1,bY (show 0≤b by omega),bY (show 0≤c by omega)];exact aGG x lo hi mx e id _ _ off len a.toNat b.toNat c.toNat en hH hg ht he (by omega) (by omega) (by omega)
    cases h
   cases h
  cases h
 cases h
theorem aGk(hT:TyOK P Ty){x hi mx:Operand}{vals:List V}{hs hs':List Hn}{v:V}{φ:List Ob}(h:aEh Ty t vals hs=some (v,φ,hs'))(hφ:Obs φ):
  Yield P H ⟨d,.slice t x none (some hi) (some mx),ty,pos,af,g⟩ vals v:=by
 unfold aEh at h;split at h
 ·split at h
  ·rename_i i hi0;split at h
   ·rename_i e hu;have ht:P.underlying t=some (.slice e):=(hT _ _ hi0).und.2.2.2 e hu;split at h
    ·rename_i j hj;cases h;obtain⟨⟨h0,rfl⟩,hr,_⟩:=hφ;obtain⟨h1,h2,h3,rfl⟩:=w4 h0;obtain⟨ju,he,_⟩:=hT _ _ hj
     have:=aAv (P:=P) (H:=H) (d:=d) (ty:=ty) (pos:=pos) (af:=af) (g:=g) x hi mx e _ _ ht he (Int.toNat_le.2 h3) hr;rw [←bY h2] at this;simpa using this
    cases h
   cases h
  cases h
 cases h
theorem aBd(hT:TyOK P Ty){b:Builtin}{tys:List TypeId}{xs:List Operand}{vals:List V}{hs hs':List Hn}{v:V}{φ:List Ob}(h:A4 Ty H b tys xs vals hs=some (v,φ,hs'))(hφ:Obs φ):
  Yield P H ⟨d,.call {callee:= .builtin b,args:=xs.toArray,argTypes:=tys.toArray},ty,pos,af,g⟩ vals v:=by
 unfold A4 at h;split at h
 ·exact aIf hT h hφ
 ·split at h
  ·rename_i hk;subst hk;cases h;exact aMw _ _ _ _ _ _
  cases h
 ·split at h
  ·rename_i hk;subst hk;cases h;exact aMv _ _ _ _ _ _
  cases h
 cases h
theorem aIb{x:Operand}{a:V}{hs hs':List Hn}{v:V}{φ:List Ob}(h:aIc H a hs=some (v,φ,hs'))(hφ:Obs φ):Yield P H ⟨d,.nilCheck x,ty,pos,af,g⟩ [a] v:=by
 unfold aIc at h;split at h
 ·split at h
  ·rename_i g' hg;cases h;obtain⟨rfl,_⟩:=hφ;obtain⟨en,hH,hg⟩:=vBu.1 hg;exact aBI _ _ _ _ _ _ en hH hg
  cases h
 ·cases h;exact H5 _ _ rfl
 ·cases h;exact H5 _ _ rfl
 ·cases h;exact aBH _ _ _
 cases h
theorem aEk(hT:TyOK P Ty){ps:Array (Nat×Operand)}{vals:List V}{hs hs':List Hn}{v:V}{φ:List Ob}(h:aBe Ty t (ps.toList.map (·.1)) vals hs=some (v,φ,hs')):
  Yield P H ⟨d,.build t ps,ty,pos,af,g⟩ vals v:=by
 unfold aBe at h;split at h
 ·cases h
 rename_i i hi;split at h
 ·rename_i fs hu;split at h
  ·rename_i cs h1 h2 h3;cases h;obtain⟨rfs,hst,_,hpl⟩:=(hT _ _ hi).st hu;exact aJb ps rfs i.places vals cs hst hpl h1 (by simpa using h2) h3
  cases h
 cases h
theorem aLV(hT:TyOK P Ty){op:Op}{vals:List V}{hs hs':List Hn}{v:V}{φ:List Ob}(h:evV P Ty H op vals hs=some (v,φ,hs'))(hφ:Obs φ):
  Yield P H ⟨d,op,ty,pos,af,g⟩ vals v:=by
 unfold evV at h;split at h
 ·split at h
  ·cases h;exact aK7 _ _
  cases h
 ·split at h
  ·cases h;exact aGM _ _
  cases h
 ·split at h
  ·rename_i b v w c hs;cases h;obtain⟨hb,_⟩:=hφ;subst hb;cases b
   ·exact aAw _ _ _ _ _
   exact aBG _ _ _ _ _
  cases h
 ·split at h
  ·split at h
   ·rename_i hl;cases h;exact aAo hT hl hφ
   exact aEb hT h hφ
  cases h
 ·split at h
  ·exact aIb h hφ
  cases h
 ·split at h
  ·split at h
   ·rename_i r hr;cases h;exact aIx hT hr hφ
   split at h
   ·rename_i r hr;cases h;exact aIk hT hr
   exact aH9 hT h hφ
  cases h
 ·split at h
  ·exact aKi h
  cases h
 ·split at h
  ·exact aGj hT h hφ
  cases h
 ·rename_i fn first caps
  split at h
  ·rename_i f hf;cases h
   have:first= #[]:=by simpa using hf
   subst this;exact aDm _ _ _
  cases h
 ·split at h
  ·exact aD9 hT h hφ
  split at h
  ·exact aCw hT h hφ
  ·exact aGk hT h hφ
  cases h
 ·split at h
  ·exact aEe hT h hφ
  cases h
 ·split at h
  ·exact aIq hT h
  cases h
 ·split at h
  ·exact aIm hT h hφ
  cases h
 ·split at h
  ·exact aEd hT h hφ
  cases h
 ·split at h
  ·split at h
   ·rename_i hk;cases h;exact aFN _ _ _ _ hk
   cases h
  cases h
 ·exact aEk hT h
 ·rename_i c;obtain⟨callee,args,tys⟩:=c;dsimp only at h;split at h
  ·have:=aBd (d:=d) (ty:=ty) (pos:=pos) (af:=af) (g:=g) hT h hφ;simpa using this
  cases h
 cases h
end
end Go.Lift
