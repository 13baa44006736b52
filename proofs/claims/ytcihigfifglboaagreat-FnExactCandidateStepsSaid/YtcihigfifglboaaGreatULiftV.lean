/- The evaluator of values is right. -/
import Derived.Test.YtcihigfifglboaaGreatULiftU
namespace Go.Lift
open Go
section
variable {P:Program} {Ty:List (Nat×TyI)} {H:Nat→Option E} {d:Option Tmp} {ty:TypeId} {pos:String} {af:Array Edge} {g:Option (Nat×Bool)}
variable {t:TypeId} {u:TypeDesc} {z:Value} {size bytes:Nat}
theorem G6(op:BinOp)(hb:aDR op=true)(x y:Operand)(t t':TypeId)(k:IntKind)(m n:Int):Yield P H ⟨d,.binOp op t x y t',ty,pos,af,g⟩ [.t (.int k m),.t (.int k n)] (.t (.int k (bits op k m n))):=by
 intro β w X ρ _ ha;refine⟨Value.int k (bits op k m n),?_,.t _ _ (.int k _)⟩;cases op<;>simp [aDR] at hb<;>
  simp [execOp,aS ha.1,aS ha.2.1,eqGuard,binOp,intBits_and,intBits_or,intBits_xor,intBits_andNot]
theorem aF5(x y:Operand)(t t':TypeId)(m n:List UInt8):Yield P H ⟨d,.binOp .lss t x y t',ty,pos,af,g⟩ [.t (.str m),.t (.str n)] (.t (.bool (Op.bytesLess m n))):=by intro β w X ρ _ ha;refine⟨.bool (Op.bytesLess m n),?_,.t _ _ (.bool _)⟩;simp [execOp,b7 ha.1,b7 ha.2.1,eqGuard,binOp,Op.stringOp]
theorem aF7(x y:Operand)(t t':TypeId)(m n:List UInt8):Yield P H ⟨d,.binOp .gtr t x y t',ty,pos,af,g⟩ [.t (.str m),.t (.str n)] (.t (.bool (!Op.bytesLess m n&& !m==n))):=by intro β w X ρ _ ha;refine⟨.bool (!Op.bytesLess m n&& !m==n),?_,.t _ _ (.bool _)⟩;simp [execOp,b7 ha.1,b7 ha.2.1,eqGuard,binOp,Op.stringOp]
theorem aF6(x y:Operand)(t t':TypeId)(m n:List UInt8):Yield P H ⟨d,.binOp .leq t x y t',ty,pos,af,g⟩ [.t (.str m),.t (.str n)] (.t (.bool (Op.bytesLess m n||m==n))):=by intro β w X ρ _ ha;refine⟨.bool (Op.bytesLess m n||m==n),?_,.t _ _ (.bool _)⟩;simp [execOp,b7 ha.1,b7 ha.2.1,eqGuard,binOp,Op.stringOp]
theorem aG8(x:Operand)(t:TypeId)(k:IntKind)(n:Int):Yield P H ⟨d,.unOp .neg t x,ty,pos,af,g⟩ [.t (.int k n)] (.t (.int k (k.wrap (0-n)))):=by intro β w X ρ _ ha;refine⟨.int k (k.wrap (0-n)),?_,.t _ _ (.int _ _)⟩;simp [execOp,aS ha.1,Op.unary,Op.intArith]
theorem N2(x:Operand)(f:FuncId)(cs:List V):Yield P H ⟨d,.nilCheck x,ty,pos,af,g⟩ [.fn f cs] (.fn f cs):=by intro β w X ρ _ ha;have h1:RV β w X (.fn f cs) (ρ x):=ha.1;refine⟨ρ x,?_,h1⟩;generalize hx:ρ x=y at h1;cases h1 with|fn=>simp [execOp,hx]
theorem aDD{op:BinOp}{x y:Operand}{t t':TypeId}{k:IntKind}{m n:Int}{hs hs':List Hn}{v:V}{φ:List Ob}(h:aDE op k m n hs=some (v,φ,hs'))(hφ:Obs φ):
  Yield P H ⟨d,.binOp op t x y t',ty,pos,af,g⟩ [.t (.int k m),.t (.int k n)] v:=by
 cases op<;>simp only [aDE,aFY,Option.some.injEq,Prod.mk.injEq,reduceCtorEq] at h<;>obtain⟨rfl,rfl,rfl⟩:=h
 ·exact aHi _ _ _ _ _ _ _
 ·exact aG3 _ _ _ _ _ _ _
 ·exact aG9 _ _ _ _ _ _ _
 ·exact aG5 _ _ _ _ _ _ _ hφ.1
 ·exact aG4 _ _ _ _ _ _ _ hφ.1
 ·exact G6 .and rfl _ _ _ _ _ _ _
 ·exact G6 .or rfl _ _ _ _ _ _ _
 ·exact G6 .xor rfl _ _ _ _ _ _ _
 ·exact G6 .andNot rfl _ _ _ _ _ _ _
 ·exact aHg _ _ _ _ _ _ _
 ·exact aG7 _ _ _ _ _ _ _
 ·exact aHc _ _ _ _ _ _ _
 ·exact aHd _ _ _ _ _ _ _
 ·exact aHe _ _ _ _ _ _ _
 exact aHf _ _ _ _ _ _ _
theorem aDs{op:BinOp}{x y:Operand}{t t':TypeId}{m n:List UInt8}{hs hs':List Hn}{v:V}{φ:List Ob}(h:aDt op m n hs=some (v,φ,hs'))(hφ:Obs φ):
  Yield P H ⟨d,.binOp op t x y t',ty,pos,af,g⟩ [.t (.str m),.t (.str n)] v:=by
 unfold aDt at h;split at h<;>cases h
 ·obtain⟨h1,rfl⟩:=aD2 hφ.1;exact aHh _ _ _ _ _ _ h1
 ·exact aF9 _ _ _ _ _ _
 ·exact aF4 _ _ _ _ _ _
 ·exact aF8 _ _ _ _ _ _
 ·exact aF5 _ _ _ _ _ _
 ·exact aF7 _ _ _ _ _ _
 exact aF6 _ _ _ _ _ _
theorem D2(hT:TyOK P Ty)(h:Y2 (bD Ty t)=true):P.underlying t=some .bool:=by
 unfold Y2 at h;split at h
 ·rename_i i hi;split at h
  ·rename_i hu;exact(hT _ _ hi).und.1 hu
  cases h
 cases h
theorem tX(hT:TyOK P Ty)(h:xM (bD Ty t)=true):P.underlying t=some .string:=by
 unfold xM at h;split at h
 ·rename_i i hi;split at h
  ·rename_i hu;exact(hT _ _ hi).und.2.2.1 hu
  cases h
 cases h
theorem rV(hT:TyOK P Ty)(h:Q0 (bD Ty t)=true): ∃e,P.underlying t=some (.slice e):=by
 unfold Q0 at h;split at h
 ·rename_i i hi;split at h
  ·rename_i e hu;exact⟨e,(hT _ _ hi).und.2.2.2 e hu⟩
  cases h
 cases h
theorem l4{β:Map}{w:World}{X:Nat→Prop}{u:Value}(h:RV β w X (.t .nilI) u):u= .nilIface:=by cases h with|t _ _ h=>cases h with|nilI=>rfl
theorem aA5{β:Map}{w:World}{X:Nat→Prop}{u:Value}(h:RV β w X (.t .err) u): ∃t v,u= .iface t v:=by cases h with|t _ _ h=>cases h with|err t v=>exact⟨t,v,rfl⟩
theorem vR(w:World)(n:Nat){ms}(a:TypeId)(b:Value)(ht:P.underlying t=some (.interface ms)):(Op.equalIn (n+1) t (.iface a b) .nilIface).run P w= .ok false w:=by simp [Op.equalIn,run_underlying ht]
theorem tL(w:World)(n:Nat){ms}(ht:P.underlying t=some (.interface ms)):(Op.equalIn (n+1) t .nilIface .nilIface).run P w= .ok true w:=by simp [Op.equalIn,run_underlying ht]
theorem E6(w:World){ms}(a:TypeId)(b:Value)(ht:P.underlying t=some (.interface ms)):(Op.equal t (.iface a b) .nilIface).run P w= .ok false w:=vR w 9999 a b ht
theorem yI(w:World){ms}(ht:P.underlying t=some (.interface ms)):(Op.equal t .nilIface .nilIface).run P w= .ok true w:=tL w 9999 ht
theorem aAv(a b):binOp .eql t (.iface a b) .nilIface=(do pure (.bool (←Op.equal t (.iface a b) .nilIface))):=rfl
theorem aAu(a b):binOp .neq t (.iface a b) .nilIface=(do pure (.bool (!(←Op.equal t (.iface a b) .nilIface)))):=rfl
theorem aAt:binOp .eql t .nilIface .nilIface=(do pure (.bool (←Op.equal t .nilIface .nilIface))):=rfl
theorem aAs:binOp .neq t .nilIface .nilIface=(do pure (.bool (!(←Op.equal t .nilIface .nilIface)))):=rfl
theorem E7(w:World)(o:BinOp)(x y:Operand)(hc:(isC x||isC y)=true):(eqGuard o t x y .nilIface .nilIface).run P w= .ok () w:=by cases x<;>cases y<;>simp [isC] at hc<;>simp [eqGuard]<;>split<;>simp
theorem aGe(x y:Operand)(t':TypeId){ms}(ht:P.underlying t=some (.interface ms)):Yield P H ⟨d,.binOp .eql t x y t',ty,pos,af,g⟩ [.t .err,.t .nilI] (.t (.bool false)):=by intro β w X ρ _ ha;obtain⟨a,b,h1⟩:=aA5 ha.1;refine⟨.bool false,?_,.t _ _ (.bool _)⟩;simp [execOp,h1,l4 ha.2.1,eqGuard,aAv,E6 w a b ht]
theorem aGd(x y:Operand)(t':TypeId){ms}(ht:P.underlying t=some (.interface ms)):Yield P H ⟨d,.binOp .neq t x y t',ty,pos,af,g⟩ [.t .err,.t .nilI] (.t (.bool true)):=by intro β w X ρ _ ha;obtain⟨a,b,h1⟩:=aA5 ha.1;refine⟨.bool true,?_,.t _ _ (.bool _)⟩;simp [execOp,h1,l4 ha.2.1,eqGuard,aAu,E6 w a b ht]
theorem aGb(x y:Operand)(t':TypeId){ms}(ht:P.underlying t=some (.interface ms))(hc:(isC x||isC y)=true):Yield P H ⟨d,.binOp .eql t x y t',ty,pos,af,g⟩ [.t .nilI,.t .nilI] (.t (.bool true)):=by intro β w X ρ _ ha;refine⟨.bool true,?_,.t _ _ (.bool _)⟩;simp [execOp,l4 ha.1,l4 ha.2.1,E7 w _ x y hc,aAt,yI w ht]
theorem aGa(x y:Operand)(t':TypeId){ms}(ht:P.underlying t=some (.interface ms))(hc:(isC x||isC y)=true):Yield P H ⟨d,.binOp .neq t x y t',ty,pos,af,g⟩ [.t .nilI,.t .nilI] (.t (.bool false)):=by intro β w X ρ _ ha;refine⟨.bool false,?_,.t _ _ (.bool _)⟩;simp [execOp,l4 ha.1,l4 ha.2.1,E7 w _ x y hc,aAs,yI w ht]
theorem rW{Ty:List (Nat×TyI)}(hT:TyOK P Ty)(h:aDh (bD Ty t)=true): ∃ms,P.underlying t=some (.interface ms):=by
 unfold aDh at h;split at h
 ·rename_i i hi;split at h
  ·rename_i hu;obtain⟨u,h1,h2⟩:=hT _ _ hi;simp only [TyI.is,hu] at h2;obtain⟨m,rfl⟩:=h2;exact⟨m,h1.1⟩
  cases h
 cases h
theorem aDF{Ty:List (Nat×TyI)}(hT:TyOK P Ty){op:BinOp}{x y:Operand}{t':TypeId}{a b:V}{hs hs':List Hn}{v:V}{φ:List Ob}(h:aDG Ty op t x y a b hs=some (v,φ,hs')):
  Yield P H ⟨d,.binOp op t x y t',ty,pos,af,g⟩ [a,b] v:=by
 unfold aDG at h;split at h
 ·rename_i h1 h2;obtain⟨ms,ht⟩:=rW hT h1;cases h;exact aGe _ _ _ ht
 ·rename_i h1 h2;obtain⟨ms,ht⟩:=rW hT h1;cases h;exact aGd _ _ _ ht
 ·rename_i h1 h2;obtain⟨ms,ht⟩:=rW hT h1;cases h;exact aGb _ _ _ ht h2
 ·rename_i h1 h2;obtain⟨ms,ht⟩:=rW hT h1;cases h;exact aGa _ _ _ ht h2
 cases h
theorem w3(w:World)(n:Nat){e}(a:Addr)(l c:Nat)(ht:P.underlying t=some (.slice e)):(Op.equalIn (n+1) t (.slice (some a) l c) (.slice none 0 0)).run P w= .ok false w:=by simp [Op.equalIn,run_underlying ht]
theorem aDW(w:World){e}(a:Addr)(l c:Nat)(ht:P.underlying t=some (.slice e)):(Op.equal t (.slice (some a) l c) (.slice none 0 0)).run P w= .ok false w:=w3 w 9999 a l c ht
theorem aD7(a:Addr)(l c:Nat):binOp .eql t (.slice (some a) l c) (.slice none 0 0)=(do pure (.bool (←Op.equal t (.slice (some a) l c) (.slice none 0 0)))):=rfl
theorem aEs(x y:Operand)(t':TypeId)(rows:List (List T)){e}(ht:P.underlying t=some (.slice e))(hr:rows≠[]):Yield P H ⟨d,.binOp .eql t x y t',ty,pos,af,g⟩ [.t (.sl rows),.t .nilS] (.t (.bool false)):=by
 intro β w X ρ _ ha;obtain⟨a,l,c,h1⟩: ∃a l c,ρ x= .slice (some a) l c:=by
  cases ha.1 with|t _ _ h=>
  generalize hu:ρ x=u at h;cases h with
  |sl0=>exact absurd rfl hr
  |sl _ b off size cap f=>exact⟨_,_,_,rfl⟩
 have h2:ρ y= .slice none 0 0:=by
  cases ha.2.1 with|t _ _ h=>
  generalize hu:ρ y=u at h;cases h;rfl
 refine⟨.bool false,?_,.t _ _ (.bool _)⟩;simp [execOp,h1,h2,eqGuard,aD7,aDW w a l c ht]
theorem aDu{Ty:List (Nat×TyI)}(hT:TyOK P Ty){op:BinOp}{x y:Operand}{t':TypeId}{a b:V}{hs hs':List Hn}{v:V}{φ:List Ob}(h:aDv Ty op t a b hs=some (v,φ,hs'))(hφ:Obs φ):
  Yield P H ⟨d,.binOp op t x y t',ty,pos,af,g⟩ [a,b] v:=by
 unfold aDv at h;split at h
 ·rename_i h1;obtain⟨e,ht⟩:=rV hT h1;cases h;exact aEs _ _ _ _ ht hφ.1
 cases h
theorem N5(x y:Operand)(e n id off k:Nat){u:TypeDesc}{z:Value}{size bytes:Nat}(ht:P.underlying t=some (.array n e))(he:TI P e u z size bytes)(hi:k<n):
  Yield P H ⟨d,.indexAddr t x y,ty,pos,af,g⟩ [.ref id off,.t (.int .i64 (k:Int))] (.ref id (off+k*size)):=by intro β w X ρ hE ha;have hn:=aS ha.2.1;obtain⟨b,hb,hx⟩:=mV ha.1;refine⟨.pointer (some ⟨b,off+k*size,none⟩),?_,.ref _ _ _ hb⟩;simp [execOp,hx,hn,Instr.indexAt,asIntOf,run_underlying ht,he.run_sizeOf,cC,Instr.sureAddr];intro h;omega
theorem aDS(hT:TyOK P Ty){op:BinOp}{x y:Operand}{t t':TypeId}{a b:V}{hs hs':List Hn}{v:V}{φ:List Ob}(h:aDT P Ty op t a b hs=some (v,φ,hs'))(hφ:Obs φ):
  Yield P H ⟨d,.binOp op t x y t',ty,pos,af,g⟩ [a,b] v:=by
 unfold aDT at h;split at h
 ·split at h
  ·rename_i hk;subst hk;exact aDD h hφ
  cases h
 ·exact aDs h hφ
 ·split at h
  ·rename_i hb;cases h;exact aGg _ _ _ _ _ (D2 hT hb)
  ·rename_i hb;cases h;exact aGf _ _ _ _ _ (D2 hT hb)
  cases h
 ·split at h
  ·rename_i ms ns b hs h1 h2;cases h;obtain⟨p1,p2,p3,_⟩:=hφ;rw [l5 h1,l5 h2,←p3];exact aCd _ _ _ _ ms ns p1 (by simp) (by simp [p2])
  ·rename_i ms ns b hs h1 h2;cases h;obtain⟨p1,p2,p3,_⟩:=hφ;rw [l5 h1,l5 h2,←p3];exact aCb _ _ _ _ ms ns p1 (by simp) (by simp [p2])
  cases h
 cases h
theorem aFw{op:UnOp}{x:Operand}{a:V}{hs hs':List Hn}{v:V}{φ:List Ob}(h:aGM op a hs=some (v,φ,hs')):
  Yield P H ⟨d,.unOp op t x,ty,pos,af,g⟩ [a] v:=by
 unfold aGM at h;split at h<;>cases h
 ·exact aG6 _ _ _
 exact aG8 _ _ _ _
theorem Q1(hT:TyOK P Ty){i:TyI}(hi:bD Ty t=some i)(h:xN Ty (some i)=true): ∃e,P.underlying t=some (.slice e)∧P.underlying e=some (.int .u8):=by
 unfold xN at h;split at h
 ·rename_i i' hii;cases hii;split at h
  ·rename_i e hu;split at h
   ·rename_i j hj;split at h
    ·rename_i hu2;exact⟨e,(hT _ _ hi).und.2.2.2 e hu,(hT _ _ hj).und.2.1 _ hu2⟩
    cases h
   cases h
  cases h
 cases h
theorem aBP(hT:TyOK P Ty){src dst:TypeId}{x:Operand}{a:V}{hs hs':List Hn}{v:V}{φ:List Ob}(h:Z3 Ty src dst a hs=some (v,φ,hs'))(hφ:Obs φ):
  Yield P H ⟨d,.convert src dst x,ty,pos,af,g⟩ [a] v:=by
 unfold Z3 at h;split at h
 ·rename_i i j hi hj;split at h
  ·rename_i k' k n m hs hu;cases h;obtain⟨us,hus,_⟩:=hT _ _ hi;have hp:k'.wrap n=m:=hφ.1;rw [←hp];exact aCe _ _ _ _ _ us _ hus.1 ((hT _ _ hj).und.2.1 _ hu)
  ·rename_i k n m hs hu;cases h;have hp:UInt8.ofInt n=m:=hφ.1;rw [←hp];obtain⟨us,hus,_⟩:=hT _ _ hi
   have:=aCe (P:=P) (H:=H) (d:=d) (ty:=ty) (pos:=pos) (af:=af) (g:=g) x src dst k .u8 us n hus.1 ((hT _ _ hj).und.2.1 _ hu);rw [aEw] at this;exact this
  ·rename_i rows l hs hu;split at h
   ·rename_i hb;cases h;have hp:rows=l.map jG:=hφ.1;obtain⟨e,h1,h2⟩:=Q1 hT hi hb;rw [hp];exact N8 _ _ _ _ _ h1 h2 ((hT _ _ hj).und.2.2.1 hu)
   cases h
  cases h
 cases h
theorem G1(x:Operand)(id gen i off:Nat)(ty':TypeId)(sz:Nat)(rows:List (List T))(row:List T)(ht:TI P t u z size bytes)(hu:qP u=true)(hH:H id=some (.arr ty' gen sz rows))(hr:rows[i]? =some row)(hc:off+size≤row.length):
  Yield P H ⟨d,.load t x,ty,pos,af,g⟩ [.eref id gen sz i off] (.agg (((row.drop off).take size).map .t)):=by
 intro β w X ρ hE ha;obtain⟨q,hq⟩:=fB (hE id _ hH);obtain⟨b,hb0,hx⟩:=fK ha.1 hq;subst hb0;have hb:=hq;rcases(hE id _ hH).2 with ⟨h1,h2⟩|⟨b',us,h1,h2,h3,h4,h5⟩
 ·rw [h2] at hr;simp at hr
 rw [hb] at h1;cases h1;have hi:i<rows.length:=(bO.1 hr).1;have hrl:row.length=sz:=h4 row (dB hr);have hlt: ∀j,j<size→i*sz+off+j<us.size:=by
  intro j hj
  have:(i+1)*sz≤rows.length*sz:=iW _ hi;rw [jU] at this;omega
 have hcell: ∀j,j<size→w.cell? ⟨b,i*sz+off+j,none⟩=some (us.getD (i*sz+off+j) undef):=fun j hj=>by
  have:=hlt j hj;simp [World.cell?,h2,this]
 refine⟨_,by simp [execOp,hx,Instr.loadAt,Instr.sureAddr,ht.run_loadVarN w hu hcell];rfl,?_⟩;refine .agg _ _ (by simp;omega) fun j c v hc' hv=>?_;have hj:j<size:=by
  have:=(bO.1 hc').1;simp at this;omega
 rw [tG,vBi hj,U6] at hc';simp only [List.getElem?_toArray,List.getElem?_map,List.getElem?_range hj,Option.map_some,Option.some.injEq] at hv;cases hx2:row[off+j]? with
 |none=>rw [hx2] at hc';simp at hc'
 |some x2=>
  rw [hx2] at hc';simp at hc';rw [←hc']
  have:=hlt j hj;have h6:=h5 i (off+j) row x2 us[i*sz+off+j] hr hx2 (by rw [←vBj];simp [this]);rw [←hv];simp only [Array.getElem?_eq_getElem this,Option.getD_some];exact .t _ _ h6
theorem E4(hT:TyOK P Ty){x:Operand}{a:V}{hs hs':List Hn}{v:V}{φ:List Ob}(h:t8 Ty H t a hs=some (v,φ,hs'))(hφ:Obs φ):
  Yield P H ⟨d,.load t x,ty,pos,af,g⟩ [a] v:=by
 unfold t8 at h;split at h
 ·cases h
 rename_i i hi;obtain⟨tu,ht,hag⟩:=(hT _ _ hi).agg;split at h
 ·rename_i id off;split at h
  ·rename_i cs hH;split at h
   ·rename_i ha;split at h
    ·rename_i hle;cases h;exact aEt _ _ _ _ ht (hag.trans ha) hH hle
    cases h
   rename_i ha;split at h
   ·rename_i c hc;cases h;exact aEu _ _ _ _ _ ht (hag.trans ha) hH hc
   cases h
  cases h
 ·rename_i cs;split at h
  ·rename_i ha;split at h
   ·rename_i hle;cases h;exact V7 _ _ ht (hag.trans ha) (nU hle)
   cases h
  rename_i ha;split at h
  ·cases h;exact V8 _ _ _ ht (hag.trans ha)
  cases h
 ·rename_i id gen sz k off;split at h
  ·rename_i gen' sz' rows r hs hH ha;split at h
   ·rename_i c hc;cases h;obtain⟨rfl,rfl,hr,_⟩:=hφ;exact G2 _ _ _ _ _ _ _ _ _ _ ht (hag.trans ha) hH hr hc
   cases h
  ·rename_i gen' sz' rows r hs hH ha;split at h
   ·rename_i hle;cases h;obtain⟨rfl,rfl,hr,_⟩:=hφ;exact G1 _ _ _ _ _ _ _ _ _ ht (hag.trans ha) hH hr (nU hle)
   cases h
  cases h
 cases h
theorem yC{j:Nat}: ∀{hs:List (Nat×Nat×V)},yD j hs=none→ ∀i v,(i,j,v)∉hs
 | [],_,_,_,h=>by cases h
 |h::hs,hf,i,v,hm=>by
  simp only [yD] at hf;cases hb:Nat.beq h.2.1 j with
  |true=>rw [hb] at hf;cases hf
  |false=>
   rw [hb] at hf;rcases nK.1 hm with rfl|hm
   ·simp at hb
   exact yC hf i v hm
theorem qI{j:Nat}{x:Nat×V}: ∀{hs:List (Nat×Nat×V)},yD j hs=some x→(x.1,j,x.2)∈hs
 |h::hs,hf=>by
  simp only [yD] at hf;cases hb:Nat.beq h.2.1 j with
  |true=>
   rw [hb] at hf;cases hf
   have:=dY hb;subst this;exact vO
  |false=>rw [hb] at hf;exact q5 _ (qI hf)
theorem l8{ho:List (Nat×Nat×V)}{k:Nat}: ∀{n j:Nat} {l:List (Nat×V)},qH ho j n=some l→Obs (xP k l)→l.length=n∧ ∀i v,(l.map (·.2))[i]? =some v→(k,j+i,v)∈ho
 |0,_,_,h,_=>by cases h;exact⟨rfl,fun i v h=>by simp at h⟩
 |n+1,j,l,h,hφ=>by
  simp only [qH] at h;split at h
  ·rename_i x l' h1 h2;cases h;simp only [xP] at hφ;obtain⟨e,hφ⟩:=hφ;obtain⟨a1,a2⟩:=l8 h2 hφ;refine⟨by simp [a1],fun i v hv=>?_⟩;cases i with
   |zero=>
    simp at hv;subst hv
    have:=qI h1;rw [e] at this;exact this
   |succ i=>
    have:=a2 i v (by simpa using hv)
    rwa [show j+1+i=j+(i+1) by omega] at this
  cases h
theorem Y8(hT:TyOK P Ty){x:Operand}{a:V}{hs hs':List Hn}{v:V}{φ:List Ob}(h:J6 Ty H t a hs=some (v,φ,hs'))(hφ:Obs φ):
  Yield P H ⟨d,.load t x,ty,pos,af,g⟩ [a] v:=by
 unfold J6 at h;split at h
 ·rename_i i id gen sz k off r hs hi;obtain⟨tu,ht,hag⟩:=(hT _ _ hi).agg;split at h
  ·rename_i Γ m gen' rows ho hH;split at h
   ·rename_i ha;split at h
    ·rename_i c hc hf;split at h
     ·rename_i hk;cases h;obtain⟨rfl,hz,hr,_⟩:=hφ;exact kU _ _ _ _ _ Γ m _ rows ho r c _ ht (hag.trans ha) hH hz hr hc (.inr ⟨fun v=>yC hf _ _,hk,rfl⟩)
     cases h
    ·rename_i c i' v' hc hf;cases h;obtain⟨rfl,hz,hr,rfl,_⟩:=hφ;exact kU _ _ _ _ _ Γ m _ rows _ r c _ ht (hag.trans ha) hH hz hr hc (.inl (qI hf))
    cases h
   rename_i ha;split at h
   ·rename_i l hl hf;cases h;obtain⟨rfl,hz,hr,hq⟩:=hφ;obtain⟨b1,b2⟩:=l8 hf hq;exact qS _ _ _ _ _ Γ m _ rows ho r _ ht (hag.trans ha) hH hz hr (nU hl) (by simp [b1]) b2
   cases h
  cases h
 ·rename_i i id gen sz k off q r hs hi;obtain⟨tu,ht,hag⟩:=(hT _ _ hi).agg;split at h
  ·rename_i Γ m gen' rows ho hH;split at h
   ·rename_i c i' j' v' ha hc hq;cases h;obtain⟨rfl,hz,hr,rfl,rfl,_⟩:=hφ;exact kU _ _ _ _ _ Γ m _ rows _ r c _ ht (hag.trans ha) hH hz hr hc (.inl (dB hq))
   ·rename_i ha;split at h
    ·rename_i l hl hf;cases h;obtain⟨rfl,hz,hr,hq⟩:=hφ;obtain⟨b1,b2⟩:=l8 hf hq;exact qS _ _ _ _ _ Γ m _ rows ho r _ ht (hag.trans ha) hH hz hr (nU hl) (by simp [b1]) fun j v hv=>vAL (b2 j v hv)
    cases h
   cases h
  cases h
 ·rename_i i id gen sz k off q r hs hi;obtain⟨tu,ht,hag⟩:=(hT _ _ hi).agg;split at h
  ·rename_i Γ m gen' rows ho hH;split at h
   ·rename_i c ha hc hk;cases h;obtain⟨rfl,hz,hr,hq⟩:=hφ;exact kU _ _ _ _ _ Γ m _ rows _ r c _ ht (hag.trans ha) hH hz hr hc (.inr ⟨rQ hq,hk,rfl⟩)
   cases h
  cases h
 cases h
theorem Z1(hT:TyOK P Ty){k:Nat}{x:Operand}{a:V}{hs hs':List Hn}{v:V}{φ:List Ob}(h:J8 Ty H t k a hs=some (v,φ,hs'))(hφ:Obs φ):
  Yield P H ⟨d,.fieldAddr t x k,ty,pos,af,g⟩ [a] v:=by
 unfold J8 at h;split at h
 ·cases h
 rename_i i hi;split at h
 ·rename_i fs hu;obtain⟨rfs,hst,hfs,_⟩:=(hT _ _ hi).st hu;have ht:P.underlying t=some (.struct rfs):=hst.1;split at h
  ·cases h
  rename_i fld0 hf0;rw [←hfs,tG] at hf0;cases hf:rfs[k]? with
  |none=>rw [vBt,hf] at hf0;cases hf0
  |some fld=>
  rw [vBt,hf] at hf0;simp only [Option.map_some,Option.some.injEq] at hf0;subst hf0;split at h
  ·cases h
  rename_i j hj;obtain⟨ju,htf,_⟩:=hT _ _ hj;split at h
  ·cases h
  rename_i hz;have hz':(j.size==0)=false:=by
   rw [beq_eq_false_iff_ne];intro e;rw [e] at hz;cases hz
  split at h
  ·cases h;exact N6 _ _ _ _ _ _ _ _ _ _ _ ht hf rfl htf hz'
  ·cases h;exact W1 _ _ _ _ _ _ _ _ _ _ ht hf rfl htf hz'
  ·split at h
   ·rename_i hH;cases h;obtain⟨rfl,rfl,_⟩:=hφ;exact G4 _ _ _ _ _ _ _ _ _ _ _ _ _ _ ht hf rfl htf hz' _ _ hH
   ·rename_i hH;cases h;obtain⟨rfl,_⟩:=hφ;exact G5 _ _ _ _ _ _ _ _ _ _ _ _ _ _ ht hf rfl htf hz' _ hH rfl
   cases h
  cases h
 cases h
theorem aDL(hT:TyOK P Ty){k:Nat}{x:Operand}{a:V}{hs hs':List Hn}{v:V}{φ:List Ob}(h:aDM Ty t k a hs=some (v,φ,hs')):
  Yield P H ⟨d,.field t x k,ty,pos,af,g⟩ [a] v:=by
 unfold aDM at h;split at h
 ·cases h
 rename_i i hi;split at h
 ·rename_i fs hu;obtain⟨rfs,hst,hfs,_⟩:=(hT _ _ hi).st hu;split at h
  ·cases h
  rename_i fld0 hf0;rw [←hfs,tG] at hf0;cases hf:rfs[k]? with
  |none=>rw [vBt,hf] at hf0;cases hf0
  |some fld=>
  rw [vBt,hf] at hf0;simp only [Option.map_some,Option.some.injEq] at hf0;subst hf0;split at h
  ·cases h
  rename_i j hj;obtain⟨ju,htf,hag⟩:=(hT _ _ hj).agg;split at h
  ·split at h
   ·rename_i ha;split at h
    ·rename_i hb;cases h;exact N7 _ _ _ _ _ _ hst hf htf (.inl ⟨hag.trans ha,hb,rfl⟩)
    cases h
   rename_i ha;split at h
   ·rename_i hv;cases h;exact N7 _ _ _ _ _ _ hst hf htf (.inr ⟨hag.trans ha,hv⟩)
   cases h
  cases h
 cases h
theorem bJ{n:Int}(h:0≤n):n=((n.toNat:Nat):Int):=by omega
theorem aDH(hT:TyOK P Ty){x y:Operand}{a b:V}{hs hs':List Hn}{v:V}{φ:List Ob}(h:aDI Ty H t a b hs=some (v,φ,hs'))(hφ:Obs φ):
  Yield P H ⟨d,.indexAddr t x y,ty,pos,af,g⟩ [a,b] v:=by
 unfold aDI at h;split at h
 ·cases h
 rename_i i hi;split at h
 ·rename_i e hu;have ht:P.underlying t=some (.slice e):=(hT _ _ hi).und.2.2.2 e hu;split at h
  ·cases h
  rename_i j hj;obtain⟨ju,he,_⟩:=hT _ _ hj;split at h
  ·rename_i rows n;split at h
   ·rename_i r hs;split at h
    ·rename_i hl;cases h;obtain⟨h1,h2⟩:=rU (show ix rows n=some r from hφ.1);rw [bJ h1];exact W0 _ _ _ _ _ _ ht he h2 (dY hl)
    cases h
   cases h
  ·rename_i id gen size off len n;split at h
   ·rename_i gen' sz' rows hH hl;cases h;obtain⟨rfl,rfl,⟨h1,h2⟩,_⟩:=hφ;have hn:n.toNat<len:=by omega
    have:=dY hl;subst this;have hq:=N4 (P:=P) (H:=H) (d:=d) (ty:=ty) (pos:=pos) (af:=af) (g:=g) x y e id gen' off len n.toNat _ _ hH ht he hn;rw [←bJ h1] at hq;exact hq
   ·rename_i m gen' rows hs0 hH hl;cases h;obtain⟨rfl,⟨h1,h2⟩,_⟩:=hφ;have hn:n.toNat<len:=by omega
    have:=dY hl;subst this;have hq:=G3 (P:=P) (H:=H) (d:=d) (ty:=ty) (pos:=pos) (af:=af) (g:=g) x y e id _ off len n.toNat _ hH rfl ht he hn;rw [←bJ h1] at hq;exact hq
   cases h
  cases h
 ·rename_i m e hu;obtain⟨u0,htu,hiu⟩:=hT _ _ hi;have ht:P.underlying t=some (.array m e):=by
   simp only [TyI.is,hu] at hiu;rw [←hiu];exact htu.1
  split at h
  ·cases h
  rename_i j hj;obtain⟨ju,he,_⟩:=hT _ _ hj;split at h
  ·rename_i id off n k hs;split at h
   ·rename_i hl;cases h;rw [show n=(k:Int) from hφ.1];exact N5 _ _ _ _ _ _ _ ht he (nU hl)
   cases h
  cases h
 cases h
theorem Z0(hT:TyOK P Ty){x y:Operand}{a b:V}{hs hs':List Hn}{v:V}{φ:List Ob}(h:J7 Ty t a b hs=some (v,φ,hs'))(hφ:Obs φ):
  Yield P H ⟨d,.index t x y,ty,pos,af,g⟩ [a,b] v:=by
 unfold J7 at h;split at h
 ·rename_i l n c hs hb;cases h;obtain⟨h1,h2⟩:=rU (show ix l n=some c from hφ.1);rw [bJ h1];exact aCa _ _ _ _ _ (tX hT hb) h2
 cases h
theorem aDA(hT:TyOK P Ty){x:Operand}{a:V}{hs hs':List Hn}{v:V}{φ:List Ob}(h:aDB Ty H t a hs=some (v,φ,hs'))(hφ:Obs φ):
  Yield P H ⟨d,.call {callee:= .builtin .len,args:= #[x],argTypes:= #[t]},ty,pos,af,g⟩ [a] v:=by
 unfold aDB at h;split at h
 ·split at h
  ·rename_i hb;cases h;exact aBn _ _ (tX hT hb)
  cases h
 ·split at h
  ·rename_i hb;cases h;obtain⟨e,he⟩:=rV hT hb;have hp:=hφ.1;rw [←hp];exact aCc _ _ _ he
  cases h
 ·split at h
  ·rename_i hH hb;cases h;obtain⟨rfl,rfl,rfl,_⟩:=hφ;obtain⟨e,he⟩:=rV hT hb;exact aBo _ _ _ _ _ _ _ he _ _ hH
  ·rename_i hH hb;cases h;obtain⟨rfl,rfl,_⟩:=hφ;obtain⟨e,he⟩:=rV hT hb;exact V9 _ _ _ _ _ _ _ he _ hH rfl
  cases h
 cases h
theorem Y6(hT:TyOK P Ty){x:Operand}{lo hi:Option Operand}{vals:List V}{hs hs':List Hn}{v:V}{φ:List Ob}(h:J5 Ty H t lo hi vals hs=some (v,φ,hs'))(hφ:Obs φ):
  Yield P H ⟨d,.slice t x lo hi none,ty,pos,af,g⟩ vals v:=by
 unfold J5 at h;split at h
 ·rename_i l ws;split at h
  ·rename_i a b r hs hs1 hb;cases h;obtain⟨h1,h2,h3,rfl⟩:=wU hφ.1;have ht:=tX hT hs1;unfold yG at hb;split at hb
   ·cases hb;rw [bJ h1,bJ (show 0≤b by omega)];exact M9 _ _ _ _ _ _ ht (by omega) (by omega)
   ·cases hb
    have:=sX (P:=P) (H:=H) (d:=d) (ty:=ty) (pos:=pos) (af:=af) (g:=g) x ‹_› l a.toNat ht (by omega);rw [←bJ h1] at this;simpa using this
   ·cases hb
    have:=wJ (P:=P) (H:=H) (d:=d) (ty:=ty) (pos:=pos) (af:=af) (g:=g) x ‹_› l b.toNat ht (by omega);rw [←bJ (show 0≤b by omega)] at this;simpa using this
   cases hb
  cases h
 ·rename_i rows ws;split at h
  ·cases h
  rename_i i hi0;split at h
  ·rename_i e hu;have ht:P.underlying t=some (.slice e):=(hT _ _ hi0).und.2.2.2 e hu;split at h
   ·rename_i j a b r hs hj hb;cases h;obtain⟨h0,hr,_⟩:=hφ;obtain⟨h1,h2,h3,rfl⟩:=wU h0;obtain⟨ju,he,_⟩:=hT _ _ hj;unfold yG at hb;split at hb
    ·cases hb;rw [bJ h1,bJ (show 0≤b by omega)];exact V4 _ _ _ _ _ _ _ ht he (by omega) (by omega) hr
    ·cases hb
     have:=vJ (P:=P) (H:=H) (d:=d) (ty:=ty) (pos:=pos) (af:=af) (g:=g) x ‹_› e rows a.toNat ht he (by omega) hr;rw [←bJ h1] at this;simpa using this
    ·cases hb
     have:=zE (P:=P) (H:=H) (d:=d) (ty:=ty) (pos:=pos) (af:=af) (g:=g) x ‹_› e rows b.toNat ht he (by omega) hr;rw [←bJ (show 0≤b by omega)] at this;simpa using this
    cases hb
   cases h
  cases h
 ·rename_i id gn sz off len ws;split at h
  ·rename_i i g' hi0 hg;split at h
   ·rename_i e hu;have ht:P.underlying t=some (.slice e):=(hT _ _ hi0).und.2.2.2 e hu;obtain⟨en,hH,hg⟩:=vBk.1 hg;have hbd: ∀{a b:Int},yG lo hi len ws=some (a,b)→0≤a→0≤b→ ∀β w X (ρ:Operand→Value),RVs β w X ws (lo.toList.map ρ++hi.toList.map ρ)→U5 len lo hi ρ a.toNat b.toNat:=by
     intro a b hb h0 h1 β w X ρ hr;unfold yG at hb;split at hb
     ·cases hb;refine⟨?_,?_⟩
      ·show ρ _=_;rw [vBv h0];exact aS hr.1
      show ρ _=_;rw [vBv h1];exact aS hr.2.1
     ·cases hb;refine⟨?_,by show _=_;simp⟩;show ρ _=_;rw [vBv h0];exact aS hr.1
     ·cases hb;refine⟨by show _=_;simp,?_⟩;show ρ _=_;rw [vBv h1];exact aS hr.1
     cases hb
    split at h
    ·rename_i j a b o m hs hj hb;cases h;obtain⟨rfl,rfl,⟨h1,h2,h3,h4,rfl,rfl⟩,_⟩:=hφ;obtain⟨ju,he,_⟩:=hT _ _ hj;exact aF3 x lo hi e id _ off len a.toNat b.toNat en hH hg ht he (by omega) (by omega) (by omega) (hbd hb h1 (by omega))
    ·rename_i j a b hs hj hb;cases h;obtain⟨rfl,⟨h1,rfl,h3⟩,_⟩:=hφ;obtain⟨ju,he,_⟩:=hT _ _ hj;exact aEr x lo hi e id _ _ off len a.toNat en hH hg ht he (by omega) (hbd hb h1 h1)
    ·rename_i j a b o m hs hj hb;split at h
     ·rename_i hrows;cases h;obtain⟨rfl,rfl,rfl,⟨h0,h1,h2,h3,rfl,rfl⟩,_⟩:=hφ;obtain⟨ju,he,_⟩:=hT _ _ hj;exact aEq x lo hi e _ id _ off len a.toNat b.toNat _ hrows ht he h0 (by omega) (by omega) (hbd hb h1 (by omega))
     cases h
    cases h
   cases h
  cases h
 cases h
theorem R0(hT:TyOK P Ty){x lo hi mx:Operand}{vals:List V}{hs hs':List Hn}{v:V}{φ:List Ob}(h:yF Ty H t vals hs=some (v,φ,hs'))(hφ:Obs φ):
  Yield P H ⟨d,.slice t x (some lo) (some hi) (some mx),ty,pos,af,g⟩ vals v:=by
 unfold yF at h;split at h
 ·rename_i id gn sz off len a b c;split at h
  ·rename_i i g' hi0 hg;split at h
   ·rename_i e hu;have ht:P.underlying t=some (.slice e):=(hT _ _ hi0).und.2.2.2 e hu;obtain⟨en,hH,hg⟩:=vBk.1 hg;split at h
    ·rename_i j hj;cases h;obtain⟨rfl,⟨h1,h2,h3,h4⟩,_⟩:=hφ;obtain⟨ju,he,_⟩:=hT _ _ hj;rw [bJ h1,bJ (show 0≤b by omega),bJ (show 0≤c by omega)];exact aB9 x lo hi mx e id _ _ off len a.toNat b.toNat c.toNat en hH hg ht he (by omega) (by omega) (by omega)
    cases h
   cases h
  cases h
 cases h
theorem aBQ(hT:TyOK P Ty){x hi mx:Operand}{vals:List V}{hs hs':List Hn}{v:V}{φ:List Ob}(h:Z4 Ty t vals hs=some (v,φ,hs'))(hφ:Obs φ):
  Yield P H ⟨d,.slice t x none (some hi) (some mx),ty,pos,af,g⟩ vals v:=by
 unfold Z4 at h;split at h
 ·split at h
  ·rename_i i hi0;split at h
   ·rename_i e hu;have ht:P.underlying t=some (.slice e):=(hT _ _ hi0).und.2.2.2 e hu;split at h
    ·rename_i j hj;cases h;obtain⟨⟨h0,rfl⟩,hr,_⟩:=hφ;obtain⟨h1,h2,h3,rfl⟩:=wU h0;obtain⟨ju,he,_⟩:=hT _ _ hj
     have:=F9 (P:=P) (H:=H) (d:=d) (ty:=ty) (pos:=pos) (af:=af) (g:=g) x hi mx e _ _ ht he (Int.toNat_le.2 h3) hr;rw [←bJ h2] at this;simpa using this
    cases h
   cases h
  cases h
 cases h
theorem K0(hT:TyOK P Ty){b:Builtin}{tys:List TypeId}{xs:List Operand}{vals:List V}{hs hs':List Hn}{v:V}{φ:List Ob}(h:uA Ty H b tys xs vals hs=some (v,φ,hs'))(hφ:Obs φ):
  Yield P H ⟨d,.call {callee:= .builtin b,args:=xs.toArray,argTypes:=tys.toArray},ty,pos,af,g⟩ vals v:=by
 unfold uA at h;split at h
 ·exact aDA hT h hφ
 ·split at h
  ·rename_i hk;subst hk;cases h;exact aHb _ _ _ _ _ _
  cases h
 ·split at h
  ·rename_i hk;subst hk;cases h;exact aHa _ _ _ _ _ _
  cases h
 cases h
theorem aDw{x:Operand}{a:V}{hs hs':List Hn}{v:V}{φ:List Ob}(h:aDx H a hs=some (v,φ,hs'))(hφ:Obs φ):Yield P H ⟨d,.nilCheck x,ty,pos,af,g⟩ [a] v:=by
 unfold aDx at h;split at h
 ·split at h
  ·rename_i g' hg;cases h;obtain⟨rfl,_⟩:=hφ;obtain⟨en,hH,hg⟩:=vBk.1 hg;exact N3 _ _ _ _ _ _ en hH hg
  cases h
 ·cases h;exact wK _ _ rfl
 ·cases h;exact wK _ _ rfl
 ·cases h;exact N2 _ _ _
 cases h
theorem Z7(hT:TyOK P Ty){ps:Array (Nat×Operand)}{vals:List V}{hs hs':List Hn}{v:V}{φ:List Ob}(h:K1 Ty t (ps.toList.map (·.1)) vals hs=some (v,φ,hs')):
  Yield P H ⟨d,.build t ps,ty,pos,af,g⟩ vals v:=by
 unfold K1 at h;split at h
 ·cases h
 rename_i i hi;split at h
 ·rename_i fs hu;split at h
  ·rename_i cs h1 h2 h3;cases h;obtain⟨rfs,hst,_,hpl⟩:=(hT _ _ hi).st hu;exact aEv ps rfs i.places vals cs hst hpl h1 (by simpa using h2) h3
  cases h
 cases h
theorem aGL(hT:TyOK P Ty){op:Op}{vals:List V}{hs hs':List Hn}{v:V}{φ:List Ob}(h:evV P Ty H op vals hs=some (v,φ,hs'))(hφ:Obs φ):
  Yield P H ⟨d,op,ty,pos,af,g⟩ vals v:=by
 unfold evV at h;split at h
 ·split at h
  ·cases h;exact aGc _ _
  cases h
 ·split at h
  ·cases h;exact aCf _ _
  cases h
 ·split at h
  ·rename_i b v w c hs;cases h;obtain⟨hb,_⟩:=hφ;subst hb;cases b
   ·exact G0 _ _ _ _ _
   exact N1 _ _ _ _ _
  cases h
 ·split at h
  ·split at h
   ·rename_i hl;cases h;exact E4 hT hl hφ
   exact Y8 hT h hφ
  cases h
 ·split at h
  ·exact aDw h hφ
  cases h
 ·split at h
  ·split at h
   ·rename_i r hr;cases h;exact aDS hT hr hφ
   split at h
   ·rename_i r hr;cases h;exact aDF hT hr
   exact aDu hT h hφ
  cases h
 ·split at h
  ·exact aFw h
  cases h
 ·split at h
  ·exact aBP hT h hφ
  cases h
 ·rename_i fn first caps
  split at h
  ·rename_i f hf;cases h
   have:first= #[]:=by simpa using hf
   subst this;exact V6 _ _ _
  cases h
 ·split at h
  ·exact Y6 hT h hφ
  split at h
  ·exact R0 hT h hφ
  ·exact aBQ hT h hφ
  cases h
 ·split at h
  ·exact Z1 hT h hφ
  cases h
 ·split at h
  ·exact aDL hT h
  cases h
 ·split at h
  ·exact aDH hT h hφ
  cases h
 ·split at h
  ·exact Z0 hT h hφ
  cases h
 ·split at h
  ·split at h
   ·rename_i hk;cases h;exact aBp _ _ _ _ hk
   cases h
  cases h
 ·exact Z7 hT h
 ·rename_i c;obtain⟨callee,args,tys⟩:=c;dsimp only at h;split at h
  ·have:=K0 (d:=d) (ty:=ty) (pos:=pos) (af:=af) (g:=g) hT h hφ;simpa using this
  cases h
 cases h
end
end Go.Lift
