/- The evaluator of values is right. -/
import Derived.Test.YtohillieiccgdaaGreatALiftU
namespace Go.Lift
open Go
section
variable {P:Program} {Ty:List (Nat×TyI)} {H:Nat→Option E} {d:Option Tmp} {ty:TypeId} {pos:String} {af:Array Edge} {g:Option (Nat×Bool)}
variable {t:TypeId} {u:TypeDesc} {z:Value} {size bytes:Nat}
theorem E9(op:BinOp)(hb:aCJ op=true)(x y:Operand)(t t':TypeId)(k:IntKind)(m n:Int):Yield P H ⟨d,.binOp op t x y t',ty,pos,af,g⟩ [.t (.int k m),.t (.int k n)] (.t (.int k (bits op k m n))):=by
 intro β w X ρ _ ha
 refine⟨Value.int k (bits op k m n),?_,.t _ _ (.int k _)⟩
 cases op<;>simp [aCJ] at hb<;>
  simp [execOp,aW ha.1,aW ha.2.1,eqGuard,binOp,intBits_and,intBits_or,intBits_xor,intBits_andNot]
theorem aEi(x y:Operand)(t t':TypeId)(m n:List UInt8):Yield P H ⟨d,.binOp .lss t x y t',ty,pos,af,g⟩ [.t (.str m),.t (.str n)] (.t (.bool (Op.bytesLess m n))):=by
 intro β w X ρ _ ha
 refine⟨.bool (Op.bytesLess m n),?_,.t _ _ (.bool _)⟩
 simp [execOp,b9 ha.1,b9 ha.2.1,eqGuard,binOp,Op.stringOp]
theorem aEk(x y:Operand)(t t':TypeId)(m n:List UInt8):Yield P H ⟨d,.binOp .gtr t x y t',ty,pos,af,g⟩ [.t (.str m),.t (.str n)] (.t (.bool (!Op.bytesLess m n&& !m==n))):=by
 intro β w X ρ _ ha
 refine⟨.bool (!Op.bytesLess m n&& !m==n),?_,.t _ _ (.bool _)⟩
 simp [execOp,b9 ha.1,b9 ha.2.1,eqGuard,binOp,Op.stringOp]
theorem aEj(x y:Operand)(t t':TypeId)(m n:List UInt8):Yield P H ⟨d,.binOp .leq t x y t',ty,pos,af,g⟩ [.t (.str m),.t (.str n)] (.t (.bool (Op.bytesLess m n||m==n))):=by
 intro β w X ρ _ ha
 refine⟨.bool (Op.bytesLess m n||m==n),?_,.t _ _ (.bool _)⟩
 simp [execOp,b9 ha.1,b9 ha.2.1,eqGuard,binOp,Op.stringOp]
theorem aFf(x:Operand)(t:TypeId)(k:IntKind)(n:Int):Yield P H ⟨d,.unOp .neg t x,ty,pos,af,g⟩ [.t (.int k n)] (.t (.int k (k.wrap (0-n)))):=by
 intro β w X ρ _ ha
 refine⟨.int k (k.wrap (0-n)),?_,.t _ _ (.int _ _)⟩
 simp [execOp,aW ha.1,Op.unary,Op.intArith]
theorem K5(x:Operand)(f:FuncId)(cs:List V):Yield P H ⟨d,.nilCheck x,ty,pos,af,g⟩ [.fn f cs] (.fn f cs):=by
 intro β w X ρ _ ha
 have h1:RV β w X (.fn f cs) (ρ x):=ha.1
 refine⟨ρ x,?_,h1⟩
 generalize hx:ρ x=y at h1
 cases h1 with|fn=>simp [execOp,hx]
theorem aCv{op:BinOp}{x y:Operand}{t t':TypeId}{k:IntKind}{m n:Int}{hs hs':List Hn}{v:V}{φ:List Ob}(h:aCw op k m n hs=some (v,φ,hs'))(hφ:Obs φ):
  Yield P H ⟨d,.binOp op t x y t',ty,pos,af,g⟩ [.t (.int k m),.t (.int k n)] v:=by
 cases op<;>simp only [aCw,aEd,Option.some.injEq,Prod.mk.injEq,reduceCtorEq] at h<;>obtain⟨rfl,rfl,rfl⟩:=h
 ·exact aFp _ _ _ _ _ _ _
 ·exact aFa _ _ _ _ _ _ _
 ·exact aFg _ _ _ _ _ _ _
 ·exact aFc _ _ _ _ _ _ _ hφ.1
 ·exact aFb _ _ _ _ _ _ _ hφ.1
 ·exact E9 .and rfl _ _ _ _ _ _ _
 ·exact E9 .or rfl _ _ _ _ _ _ _
 ·exact E9 .xor rfl _ _ _ _ _ _ _
 ·exact E9 .andNot rfl _ _ _ _ _ _ _
 ·exact aFn _ _ _ _ _ _ _
 ·exact aFe _ _ _ _ _ _ _
 ·exact aFj _ _ _ _ _ _ _
 ·exact aFk _ _ _ _ _ _ _
 ·exact aFl _ _ _ _ _ _ _
 ·exact aFm _ _ _ _ _ _ _
theorem aCm{op:BinOp}{x y:Operand}{t t':TypeId}{m n:List UInt8}{hs hs':List Hn}{v:V}{φ:List Ob}(h:aCn op m n hs=some (v,φ,hs'))(hφ:Obs φ):
  Yield P H ⟨d,.binOp op t x y t',ty,pos,af,g⟩ [.t (.str m),.t (.str n)] v:=by
 unfold aCn at h
 split at h<;>cases h
 ·obtain⟨h1,rfl⟩:=aCS hφ.1
  exact aFo _ _ _ _ _ _ h1
 ·exact aEm _ _ _ _ _ _
 ·exact aEh _ _ _ _ _ _
 ·exact aEl _ _ _ _ _ _
 ·exact aEi _ _ _ _ _ _
 ·exact aEk _ _ _ _ _ _
 ·exact aEj _ _ _ _ _ _
theorem C4(hT:TyOK P Ty)(h:T9 (bR Ty t)=true):P.underlying t=some .bool:=by
 unfold T9 at h
 split at h
 ·rename_i i hi
  split at h
  ·rename_i hu;exact(hT _ _ hi).und.1 hu
  ·cases h
 ·cases h
theorem uI(hT:TyOK P Ty)(h:yF (bR Ty t)=true):P.underlying t=some .string:=by
 unfold yF at h
 split at h
 ·rename_i i hi
  split at h
  ·rename_i hu;exact(hT _ _ hi).und.2.2.1 hu
  ·cases h
 ·cases h
theorem yG(hT:TyOK P Ty)(h:aAk (bR Ty t)=true): ∃e,P.underlying t=some (.slice e):=by
 unfold aAk at h
 split at h
 ·rename_i i hi
  split at h
  ·rename_i e hu;exact⟨e,(hT _ _ hi).und.2.2.2 e hu⟩
  ·cases h
 ·cases h
theorem mV{β:Map}{w:World}{X:Nat→Prop}{u:Value}(h:RV β w X (.t .nilI) u):u= .nilIface:=by
 cases h with|t _ _ h=>cases h with|nilI=>rfl
theorem aAl{β:Map}{w:World}{X:Nat→Prop}{u:Value}(h:RV β w X (.t .err) u): ∃t v,u= .iface t v:=by
 cases h with|t _ _ h=>cases h with|err t v=>exact⟨t,v,rfl⟩
theorem v6(w:World)(n:Nat){ms}(a:TypeId)(b:Value)(ht:P.underlying t=some (.interface ms)):(Op.equalIn (n+1) t (.iface a b) .nilIface).run P w= .ok false w:=by
 simp [Op.equalIn,run_underlying ht]
theorem t1(w:World)(n:Nat){ms}(ht:P.underlying t=some (.interface ms)):(Op.equalIn (n+1) t .nilIface .nilIface).run P w= .ok true w:=by
 simp [Op.equalIn,run_underlying ht]
theorem D6(w:World){ms}(a:TypeId)(b:Value)(ht:P.underlying t=some (.interface ms)):(Op.equal t (.iface a b) .nilIface).run P w= .ok false w:=v6 w 9999 a b ht
theorem yV(w:World){ms}(ht:P.underlying t=some (.interface ms)):(Op.equal t .nilIface .nilIface).run P w= .ok true w:=t1 w 9999 ht
theorem Y2(a b):binOp .eql t (.iface a b) .nilIface=(do pure (.bool (←Op.equal t (.iface a b) .nilIface))):=rfl
theorem Y1(a b):binOp .neq t (.iface a b) .nilIface=(do pure (.bool (!(←Op.equal t (.iface a b) .nilIface)))):=rfl
theorem Y0:binOp .eql t .nilIface .nilIface=(do pure (.bool (←Op.equal t .nilIface .nilIface))):=rfl
theorem X9:binOp .neq t .nilIface .nilIface=(do pure (.bool (!(←Op.equal t .nilIface .nilIface)))):=rfl
theorem D7(w:World)(o:BinOp)(x y:Operand)(hc:(isC x||isC y)=true):(eqGuard o t x y .nilIface .nilIface).run P w= .ok () w:=by
 cases x<;>cases y<;>simp [isC] at hc<;>simp [eqGuard]<;>split<;>simp
theorem aEr(x y:Operand)(t':TypeId){ms}(ht:P.underlying t=some (.interface ms)):Yield P H ⟨d,.binOp .eql t x y t',ty,pos,af,g⟩ [.t .err,.t .nilI] (.t (.bool false)):=by
 intro β w X ρ _ ha
 obtain⟨a,b,h1⟩:=aAl ha.1
 refine⟨.bool false,?_,.t _ _ (.bool _)⟩
 simp [execOp,h1,mV ha.2.1,eqGuard,Y2,D6 w a b ht]
theorem aEq(x y:Operand)(t':TypeId){ms}(ht:P.underlying t=some (.interface ms)):Yield P H ⟨d,.binOp .neq t x y t',ty,pos,af,g⟩ [.t .err,.t .nilI] (.t (.bool true)):=by
 intro β w X ρ _ ha
 obtain⟨a,b,h1⟩:=aAl ha.1
 refine⟨.bool true,?_,.t _ _ (.bool _)⟩
 simp [execOp,h1,mV ha.2.1,eqGuard,Y1,D6 w a b ht]
theorem aEo(x y:Operand)(t':TypeId){ms}(ht:P.underlying t=some (.interface ms))(hc:(isC x||isC y)=true):Yield P H ⟨d,.binOp .eql t x y t',ty,pos,af,g⟩ [.t .nilI,.t .nilI] (.t (.bool true)):=by
 intro β w X ρ _ ha
 refine⟨.bool true,?_,.t _ _ (.bool _)⟩
 simp [execOp,mV ha.1,mV ha.2.1,D7 w _ x y hc,Y0,yV w ht]
theorem aEn(x y:Operand)(t':TypeId){ms}(ht:P.underlying t=some (.interface ms))(hc:(isC x||isC y)=true):Yield P H ⟨d,.binOp .neq t x y t',ty,pos,af,g⟩ [.t .nilI,.t .nilI] (.t (.bool false)):=by
 intro β w X ρ _ ha
 refine⟨.bool false,?_,.t _ _ (.bool _)⟩
 simp [execOp,mV ha.1,mV ha.2.1,D7 w _ x y hc,X9,yV w ht]
theorem sW{Ty:List (Nat×TyI)}(hT:TyOK P Ty)(h:aCa (bR Ty t)=true): ∃ms,P.underlying t=some (.interface ms):=by
 unfold aCa at h
 split at h
 ·rename_i i hi
  split at h
  ·rename_i hu
   obtain⟨u,h1,h2⟩:=hT _ _ hi
   simp only [TyI.is,hu] at h2
   obtain⟨m,rfl⟩:=h2
   exact⟨m,h1.1⟩
  ·cases h
 ·cases h
theorem aCx{Ty:List (Nat×TyI)}(hT:TyOK P Ty){op:BinOp}{x y:Operand}{t':TypeId}{a b:V}{hs hs':List Hn}{v:V}{φ:List Ob}(h:aCy Ty op t x y a b hs=some (v,φ,hs')):
  Yield P H ⟨d,.binOp op t x y t',ty,pos,af,g⟩ [a,b] v:=by
 unfold aCy at h
 split at h
 ·rename_i h1 h2;obtain⟨ms,ht⟩:=sW hT h1;cases h;exact aEr _ _ _ ht
 ·rename_i h1 h2;obtain⟨ms,ht⟩:=sW hT h1;cases h;exact aEq _ _ _ ht
 ·rename_i h1 h2;obtain⟨ms,ht⟩:=sW hT h1;cases h;exact aEo _ _ _ ht h2
 ·rename_i h1 h2;obtain⟨ms,ht⟩:=sW hT h1;cases h;exact aEn _ _ _ ht h2
 ·cases h
theorem K7(x y:Operand)(e n id off k:Nat){u:TypeDesc}{z:Value}{size bytes:Nat}(ht:P.underlying t=some (.array n e))(he:TI P e u z size bytes)(hi:k<n):
  Yield P H ⟨d,.indexAddr t x y,ty,pos,af,g⟩ [.ref id off,.t (.int .i64 (k:Int))] (.ref id (off+k*size)):=by
 intro β w X ρ hE ha
 have hn:=aW ha.2.1
 obtain⟨b,hb,hx⟩:=nO ha.1
 refine⟨.pointer (some ⟨b,off+k*size,none⟩),?_,.ref _ _ _ hb⟩
 simp [execOp,hx,hn,Instr.indexAt,asIntOf,run_underlying ht,he.run_sizeOf,dQ,Instr.sureAddr]
 intro h;omega
theorem aCK(hT:TyOK P Ty){op:BinOp}{x y:Operand}{t t':TypeId}{a b:V}{hs hs':List Hn}{v:V}{φ:List Ob}(h:aCL P Ty op t a b hs=some (v,φ,hs'))(hφ:Obs φ):
  Yield P H ⟨d,.binOp op t x y t',ty,pos,af,g⟩ [a,b] v:=by
 unfold aCL at h
 split at h
 ·split at h
  ·rename_i hk;subst hk;exact aCv h hφ
  ·cases h
 ·exact aCm h hφ
 ·split at h
  ·rename_i hb;cases h;exact aEt _ _ _ _ _ (C4 hT hb)
  ·rename_i hb;cases h;exact aEs _ _ _ _ _ (C4 hT hb)
  ·cases h
 ·split at h
  ·rename_i ms ns b hs h1 h2
   cases h
   obtain⟨p1,p2,p3,_⟩:=hφ
   rw [mW h1,mW h2,←p3]
   exact aBj _ _ _ _ ms ns p1 (by simp) (by simp [p2])
  ·rename_i ms ns b hs h1 h2
   cases h
   obtain⟨p1,p2,p3,_⟩:=hφ
   rw [mW h1,mW h2,←p3]
   exact aBh _ _ _ _ ms ns p1 (by simp) (by simp [p2])
  ·cases h
 ·cases h
theorem aDS{op:UnOp}{x:Operand}{a:V}{hs hs':List Hn}{v:V}{φ:List Ob}(h:aEV op a hs=some (v,φ,hs')):
  Yield P H ⟨d,.unOp op t x,ty,pos,af,g⟩ [a] v:=by
 unfold aEV at h
 split at h<;>cases h
 ·exact aFd _ _ _
 ·exact aFf _ _ _ _
theorem N1(hT:TyOK P Ty){i:TyI}(hi:bR Ty t=some i)(h:yH Ty (some i)=true): ∃e,P.underlying t=some (.slice e)∧P.underlying e=some (.int .u8):=by
 unfold yH at h
 split at h
 ·rename_i i' hii
  cases hii
  split at h
  ·rename_i e hu
   split at h
   ·rename_i j hj
    split at h
    ·rename_i hu2;exact⟨e,(hT _ _ hi).und.2.2.2 e hu,(hT _ _ hj).und.2.1 _ hu2⟩
    ·cases h
   ·cases h
  ·cases h
 ·cases h
theorem aA1(hT:TyOK P Ty){src dst:TypeId}{x:Operand}{a:V}{hs hs':List Hn}{v:V}{φ:List Ob}(h:V1 Ty src dst a hs=some (v,φ,hs'))(hφ:Obs φ):
  Yield P H ⟨d,.convert src dst x,ty,pos,af,g⟩ [a] v:=by
 unfold V1 at h
 split at h
 ·rename_i i j hi hj
  split at h
  ·rename_i k' k n m hs hu
   cases h
   obtain⟨us,hus,_⟩:=hT _ _ hi
   have hp:k'.wrap n=m:=hφ.1
   rw [←hp]
   exact aBk _ _ _ _ _ us _ hus.1 ((hT _ _ hj).und.2.1 _ hu)
  ·rename_i k n m hs hu
   cases h
   have hp:UInt8.ofInt n=m:=hφ.1
   rw [←hp]
   obtain⟨us,hus,_⟩:=hT _ _ hi
   have:=aBk (P:=P) (H:=H) (d:=d) (ty:=ty) (pos:=pos) (af:=af) (g:=g) x src dst k .u8 us n hus.1 ((hT _ _ hj).und.2.1 _ hu)
   rw [Z1] at this
   exact this
  ·rename_i rows l hs hu
   split at h
   ·rename_i hb
    cases h
    have hp:rows=l.map iG:=hφ.1
    obtain⟨e,h1,h2⟩:=N1 hT hi hb
    rw [hp]
    exact L0 _ _ _ _ _ h1 h2 ((hT _ _ hj).und.2.2.1 hu)
   ·cases h
  ·cases h
 ·cases h
theorem E4(x:Operand)(id gen i off:Nat)(ty':TypeId)(sz:Nat)(rows:List (List T))(row:List T)(ht:TI P t u z size bytes)(hu:tT u=true)(hH:H id=some (.arr ty' gen sz rows))(hr:rows[i]? =some row)(hc:off+size≤row.length):
  Yield P H ⟨d,.load t x,ty,pos,af,g⟩ [.eref id gen sz i off] (.agg (((row.drop off).take size).map .t)):=by
 intro β w X ρ hE ha
 obtain⟨q,hq⟩:=iZ (hE id _ hH)
 obtain⟨b,hb0,hx⟩:=lD ha.1 hq
 subst hb0
 have hb:=hq
 rcases(hE id _ hH).2 with ⟨h1,h2⟩|⟨b',us,h1,h2,h3,h4,h5⟩
 ·rw [h2] at hr;simp at hr
 ·rw [hb] at h1;cases h1
  have hi:i<rows.length:=(List.getElem?_eq_some_iff.1 hr).1
  have hrl:row.length=sz:=h4 row (List.mem_of_getElem? hr)
  have hlt: ∀j,j<size→i*sz+off+j<us.size:=by
   intro j hj
   have:(i+1)*sz≤rows.length*sz:=Nat.mul_le_mul_right _ hi
   rw [Nat.add_mul] at this;omega
  have hcell: ∀j,j<size→w.cell? ⟨b,i*sz+off+j,none⟩=some (us.getD (i*sz+off+j) undef):=fun j hj=>by
   have:=hlt j hj
   simp [World.cell?,h2,this]
  refine⟨_,by simp [execOp,hx,Instr.loadAt,Instr.sureAddr,ht.run_loadVarN w hu hcell];rfl,?_⟩
  refine .agg _ _ (by simp;omega) (fun j c v hc' hv=> ?_)
  have hj:j<size:=by
   have:=(List.getElem?_eq_some_iff.1 hc').1
   simp at this;omega
  rw [List.getElem?_map,List.getElem?_take_of_lt hj,List.getElem?_drop] at hc'
  simp only [List.getElem?_toArray,List.getElem?_map,List.getElem?_range hj,Option.map_some,Option.some.injEq] at hv
  cases hx2:row[off+j]? with
  |none=>rw [hx2] at hc';simp at hc'
  |some x2=>
   rw [hx2] at hc';simp at hc'
   rw [←hc']
   have:=hlt j hj
   have h6:=h5 i (off+j) row x2 us[i*sz+off+j] hr hx2 (by rw [←Nat.add_assoc];simp [this])
   rw [←hv]
   simp only [Array.getElem?_eq_getElem this,Option.getD_some]
   exact .t _ _ h6
theorem D4(hT:TyOK P Ty){x:Operand}{a:V}{hs hs':List Hn}{v:V}{φ:List Ob}(h:uO Ty H t a hs=some (v,φ,hs'))(hφ:Obs φ):
  Yield P H ⟨d,.load t x,ty,pos,af,g⟩ [a] v:=by
 unfold uO at h
 split at h
 ·cases h
 ·rename_i i hi
  obtain⟨tu,ht,hag⟩:=(hT _ _ hi).agg
  split at h
  ·rename_i id off
   split at h
   ·rename_i cs hH
    split at h
    ·rename_i ha
     split at h
     ·rename_i hle;cases h;exact aDa _ _ _ _ ht (hag.trans ha) hH hle
     ·cases h
    ·rename_i ha
     split at h
     ·rename_i c hc;cases h;exact aDb _ _ _ _ _ ht (hag.trans ha) hH hc
     ·cases h
   ·cases h
  ·rename_i cs
   split at h
   ·rename_i ha
    split at h
    ·rename_i hle;cases h;exact R7 _ _ ht (hag.trans ha) (Nat.le_of_ble_eq_true hle)
    ·cases h
   ·rename_i ha
    split at h
    ·cases h;exact R8 _ _ _ ht (hag.trans ha)
    ·cases h
  ·rename_i id gen sz k off
   split at h
   ·rename_i gen' sz' rows r hs hH ha
    split at h
    ·rename_i c hc
     cases h
     obtain⟨rfl,rfl,hr,_⟩:=hφ
     exact E5 _ _ _ _ _ _ _ _ _ _ ht (hag.trans ha) hH hr hc
    ·cases h
   ·rename_i gen' sz' rows r hs hH ha
    split at h
    ·rename_i hle
     cases h
     obtain⟨rfl,rfl,hr,_⟩:=hφ
     exact E4 _ _ _ _ _ _ _ _ _ ht (hag.trans ha) hH hr (Nat.le_of_ble_eq_true hle)
    ·cases h
   ·cases h
  ·cases h
theorem U7(hT:TyOK P Ty){x:Operand}{a:V}{hs hs':List Hn}{v:V}{φ:List Ob}(h:H8 Ty H t a hs=some (v,φ,hs'))(hφ:Obs φ):
  Yield P H ⟨d,.load t x,ty,pos,af,g⟩ [a] v:=by
 unfold H8 at h
 split at h
 ·rename_i i id gen sz k off r hs hi
  obtain⟨tu,ht,hag⟩:=(hT _ _ hi).agg
  split at h
  ·rename_i Γ m gen' rows ho c hH ha hc
   split at h
   ·rename_i hk
    split at h
    ·rename_i hf
     cases h
     obtain⟨rfl,hz,hr,_⟩:=hφ
     exact uZ _ _ _ _ _ Γ m _ rows ho r c _ ht (hag.trans ha) hH hz hr hc (.inr ⟨fun v=>nU hf _ _,hk,rfl⟩)
    ·cases h
   ·split at h
    ·split at h
     ·rename_i hj
      cases h
      obtain⟨rfl,hz,hr,rfl,_⟩:=hφ
      have:=Nat.eq_of_beq_eq_true hj
      subst this
      exact uZ _ _ _ _ _ Γ m _ rows _ r c _ ht (hag.trans ha) hH hz hr hc (.inl List.mem_cons_self)
     ·cases h
    ·cases h
  ·cases h
 ·cases h
theorem V0(hT:TyOK P Ty){k:Nat}{x:Operand}{a:V}{hs hs':List Hn}{v:V}{φ:List Ob}(h:I0 Ty H t k a hs=some (v,φ,hs'))(hφ:Obs φ):
  Yield P H ⟨d,.fieldAddr t x k,ty,pos,af,g⟩ [a] v:=by
 unfold I0 at h
 split at h
 ·cases h
 ·rename_i i hi
  split at h
  ·rename_i fs hu
   obtain⟨rfs,hst,hfs,_⟩:=(hT _ _ hi).st hu
   have ht:P.underlying t=some (.struct rfs):=hst.1
   split at h
   ·cases h
   ·rename_i fld0 hf0
    rw [←hfs,List.getElem?_map] at hf0
    cases hf:rfs[k]? with
    |none=>rw [Array.getElem?_toList,hf] at hf0;cases hf0
    |some fld=>
    rw [Array.getElem?_toList,hf] at hf0
    simp only [Option.map_some,Option.some.injEq] at hf0
    subst hf0
    split at h
    ·cases h
    ·rename_i j hj
     obtain⟨ju,htf,_⟩:=hT _ _ hj
     split at h
     ·cases h
     ·rename_i hz
      have hz':(j.size==0)=false:=by
       rw [beq_eq_false_iff_ne];intro e;rw [e] at hz;cases hz
      split at h
      ·cases h;exact K8 _ _ _ _ _ _ _ _ _ _ _ ht hf rfl htf hz'
      ·cases h;exact S1 _ _ _ _ _ _ _ _ _ _ ht hf rfl htf hz'
      ·split at h
       ·rename_i hH
        cases h
        obtain⟨rfl,rfl,_⟩:=hφ
        exact E7 _ _ _ _ _ _ _ _ _ _ _ _ _ _ ht hf rfl htf hz' _ _ hH
       ·rename_i hH
        cases h
        obtain⟨rfl,_⟩:=hφ
        exact E8 _ _ _ _ _ _ _ _ _ _ _ _ _ _ ht hf rfl htf hz' _ hH rfl
       ·cases h
      ·cases h
  ·cases h
theorem aCD(hT:TyOK P Ty){k:Nat}{x:Operand}{a:V}{hs hs':List Hn}{v:V}{φ:List Ob}(h:aCE Ty t k a hs=some (v,φ,hs')):
  Yield P H ⟨d,.field t x k,ty,pos,af,g⟩ [a] v:=by
 unfold aCE at h
 split at h
 ·cases h
 ·rename_i i hi
  split at h
  ·rename_i fs hu
   obtain⟨rfs,hst,hfs,_⟩:=(hT _ _ hi).st hu
   split at h
   ·cases h
   ·rename_i fld0 hf0
    rw [←hfs,List.getElem?_map] at hf0
    cases hf:rfs[k]? with
    |none=>rw [Array.getElem?_toList,hf] at hf0;cases hf0
    |some fld=>
    rw [Array.getElem?_toList,hf] at hf0
    simp only [Option.map_some,Option.some.injEq] at hf0
    subst hf0
    split at h
    ·cases h
    ·rename_i j hj
     obtain⟨ju,htf,hag⟩:=(hT _ _ hj).agg
     split at h
     ·split at h
      ·rename_i ha
       split at h
       ·rename_i hb
        cases h
        exact K9 _ _ _ _ _ _ hst hf htf (.inl ⟨hag.trans ha,hb,rfl⟩)
       ·cases h
      ·rename_i ha
       split at h
       ·rename_i hv
        cases h
        exact K9 _ _ _ _ _ _ hst hf htf (.inr ⟨hag.trans ha,hv⟩)
       ·cases h
     ·cases h
  ·cases h
theorem cB{n:Int}(h:0≤n):n=((n.toNat:Nat):Int):=by omega
theorem aCz(hT:TyOK P Ty){x y:Operand}{a b:V}{hs hs':List Hn}{v:V}{φ:List Ob}(h:aCA Ty H t a b hs=some (v,φ,hs'))(hφ:Obs φ):
  Yield P H ⟨d,.indexAddr t x y,ty,pos,af,g⟩ [a,b] v:=by
 unfold aCA at h
 split at h
 ·cases h
 ·rename_i i hi
  split at h
  ·rename_i e hu
   have ht:P.underlying t=some (.slice e):=(hT _ _ hi).und.2.2.2 e hu
   split at h
   ·cases h
   ·rename_i j hj
    obtain⟨ju,he,_⟩:=hT _ _ hj
    split at h
    ·rename_i rows n
     split at h
     ·rename_i r hs
      split at h
      ·rename_i hl
       cases h
       obtain⟨h1,h2⟩:=sV (show ix rows n=some r from hφ.1)
       rw [cB h1]
       exact S0 _ _ _ _ _ _ ht he h2 (Nat.eq_of_beq_eq_true hl)
      ·cases h
     ·cases h
    ·rename_i id gen size off len n
     split at h
     ·rename_i gen' sz' rows hH hl
      cases h
      obtain⟨rfl,rfl,⟨h1,h2⟩,_⟩:=hφ
      have hn:n.toNat<len:=by omega
      have:=Nat.eq_of_beq_eq_true hl
      subst this
      have hq:=K6 (P:=P) (H:=H) (d:=d) (ty:=ty) (pos:=pos) (af:=af) (g:=g) x y e id gen' off len n.toNat _ _ hH ht he hn
      rw [←cB h1] at hq
      exact hq
     ·rename_i m gen' rows hs0 hH hl
      cases h
      obtain⟨rfl,⟨h1,h2⟩,_⟩:=hφ
      have hn:n.toNat<len:=by omega
      have:=Nat.eq_of_beq_eq_true hl
      subst this
      have hq:=E6 (P:=P) (H:=H) (d:=d) (ty:=ty) (pos:=pos) (af:=af) (g:=g) x y e id _ off len n.toNat _ hH rfl ht he hn
      rw [←cB h1] at hq
      exact hq
     ·cases h
    ·cases h
  ·rename_i m e hu
   obtain⟨u0,htu,hiu⟩:=hT _ _ hi
   have ht:P.underlying t=some (.array m e):=by
    simp only [TyI.is,hu] at hiu;rw [←hiu];exact htu.1
   split at h
   ·cases h
   ·rename_i j hj
    obtain⟨ju,he,_⟩:=hT _ _ hj
    split at h
    ·rename_i id off n k hs
     split at h
     ·rename_i hl
      cases h
      rw [show n=(k:Int) from hφ.1]
      exact K7 _ _ _ _ _ _ _ ht he (Nat.le_of_ble_eq_true hl)
     ·cases h
    ·cases h
  ·cases h
theorem U9(hT:TyOK P Ty){x y:Operand}{a b:V}{hs hs':List Hn}{v:V}{φ:List Ob}(h:H9 Ty t a b hs=some (v,φ,hs'))(hφ:Obs φ):
  Yield P H ⟨d,.index t x y,ty,pos,af,g⟩ [a,b] v:=by
 unfold H9 at h
 split at h
 ·rename_i l n c hs hb
  cases h
  obtain⟨h1,h2⟩:=sV (show ix l n=some c from hφ.1)
  rw [cB h1]
  exact aBg _ _ _ _ _ (uI hT hb) h2
 ·cases h
theorem aCs(hT:TyOK P Ty){x:Operand}{a:V}{hs hs':List Hn}{v:V}{φ:List Ob}(h:aCt Ty H t a hs=some (v,φ,hs'))(hφ:Obs φ):
  Yield P H ⟨d,.call {callee:= .builtin .len,args:= #[x],argTypes:= #[t]},ty,pos,af,g⟩ [a] v:=by
 unfold aCt at h
 split at h
 ·split at h
  ·rename_i hb;cases h;exact aAA _ _ (uI hT hb)
  ·cases h
 ·split at h
  ·rename_i hb;cases h
   obtain⟨e,he⟩:=yG hT hb
   have hp:=hφ.1
   rw [←hp]
   exact aBi _ _ _ he
  ·cases h
 ·split at h
  ·rename_i hH hb;cases h
   obtain⟨rfl,rfl,rfl,_⟩:=hφ
   obtain⟨e,he⟩:=yG hT hb
   exact aAB _ _ _ _ _ _ _ he _ _ hH
  ·rename_i hH hb;cases h
   obtain⟨rfl,rfl,_⟩:=hφ
   obtain⟨e,he⟩:=yG hT hb
   exact R9 _ _ _ _ _ _ _ he _ hH rfl
  ·cases h
 ·cases h
theorem U5(hT:TyOK P Ty){x:Operand}{lo hi:Option Operand}{vals:List V}{hs hs':List Hn}{v:V}{φ:List Ob}(h:H7 Ty t lo hi vals hs=some (v,φ,hs'))(hφ:Obs φ):
  Yield P H ⟨d,.slice t x lo hi none,ty,pos,af,g⟩ vals v:=by
 unfold H7 at h
 split at h
 ·rename_i l ws
  split at h
  ·rename_i a b r hs hs1 hb
   cases h
   obtain⟨h1,h2,h3,rfl⟩:=xA hφ.1
   have ht:=uI hT hs1
   unfold aAs at hb
   split at hb
   ·cases hb
    rw [cB h1,cB (show 0≤b by omega)]
    exact K3 _ _ _ _ _ _ ht (by omega) (by omega)
   ·cases hb
    have:=tW (P:=P) (H:=H) (d:=d) (ty:=ty) (pos:=pos) (af:=af) (g:=g) x ‹_› l a.toNat ht (by omega)
    rw [←cB h1] at this
    simpa using this
   ·cases hb
    have:=wV (P:=P) (H:=H) (d:=d) (ty:=ty) (pos:=pos) (af:=af) (g:=g) x ‹_› l b.toNat ht (by omega)
    rw [←cB (show 0≤b by omega)] at this
    simpa using this
   ·cases hb
  ·cases h
 ·rename_i rows ws
  split at h
  ·cases h
  ·rename_i i hi0
   split at h
   ·rename_i e hu
    have ht:P.underlying t=some (.slice e):=(hT _ _ hi0).und.2.2.2 e hu
    split at h
    ·rename_i j a b r hs hj hb
     cases h
     obtain⟨h0,hr,_⟩:=hφ
     obtain⟨h1,h2,h3,rfl⟩:=xA h0
     obtain⟨ju,he,_⟩:=hT _ _ hj
     unfold aAs at hb
     split at hb
     ·cases hb
      rw [cB h1,cB (show 0≤b by omega)]
      exact R4 _ _ _ _ _ _ _ ht he (by omega) (by omega) hr
     ·cases hb
      have:=vW (P:=P) (H:=H) (d:=d) (ty:=ty) (pos:=pos) (af:=af) (g:=g) x ‹_› e rows a.toNat ht he (by omega) hr
      rw [←cB h1] at this
      simpa using this
     ·cases hb
      have:=zS (P:=P) (H:=H) (d:=d) (ty:=ty) (pos:=pos) (af:=af) (g:=g) x ‹_› e rows b.toNat ht he (by omega) hr
      rw [←cB (show 0≤b by omega)] at this
      simpa using this
     ·cases hb
    ·cases h
   ·cases h
 ·cases h
theorem I1(hT:TyOK P Ty){b:Builtin}{tys:List TypeId}{xs:List Operand}{vals:List V}{hs hs':List Hn}{v:V}{φ:List Ob}(h:uP Ty H b tys xs vals hs=some (v,φ,hs'))(hφ:Obs φ):
  Yield P H ⟨d,.call {callee:= .builtin b,args:=xs.toArray,argTypes:=tys.toArray},ty,pos,af,g⟩ vals v:=by
 unfold uP at h
 split at h
 ·exact aCs hT h hφ
 ·split at h
  ·rename_i hk;subst hk;cases h;exact aFi _ _ _ _ _ _
  ·cases h
 ·split at h
  ·rename_i hk;subst hk;cases h;exact aFh _ _ _ _ _ _
  ·cases h
 ·cases h
theorem aCo{x:Operand}{a:V}{hs hs':List Hn}{v:V}{φ:List Ob}(h:aCp a hs=some (v,φ,hs')):Yield P H ⟨d,.nilCheck x,ty,pos,af,g⟩ [a] v:=by
 unfold aCp at h
 split at h<;>cases h
 ·exact wW _ _ rfl
 ·exact wW _ _ rfl
 ·exact K5 _ _ _
theorem V3(hT:TyOK P Ty){ps:Array (Nat×Operand)}{vals:List V}{hs hs':List Hn}{v:V}{φ:List Ob}(h:I2 Ty t (ps.toList.map (·.1)) vals hs=some (v,φ,hs')):
  Yield P H ⟨d,.build t ps,ty,pos,af,g⟩ vals v:=by
 unfold I2 at h
 split at h
 ·cases h
 ·rename_i i hi
  split at h
  ·rename_i fs hu
   split at h
   ·rename_i cs h1 h2 h3
    cases h
    obtain⟨rfs,hst,_,hpl⟩:=(hT _ _ hi).st hu
    exact aDc ps rfs i.places vals cs hst hpl h1 (by simpa using h2) h3
   ·cases h
  ·cases h
theorem aEU(hT:TyOK P Ty){op:Op}{vals:List V}{hs hs':List Hn}{v:V}{φ:List Ob}(h:evV P Ty H op vals hs=some (v,φ,hs'))(hφ:Obs φ):
  Yield P H ⟨d,op,ty,pos,af,g⟩ vals v:=by
 unfold evV at h
 split at h
 ·split at h
  ·cases h;exact aEp _ _
  ·cases h
 ·split at h
  ·cases h;exact aBl _ _
  ·cases h
 ·split at h
  ·rename_i b v w c hs
   cases h
   obtain⟨hb,_⟩:=hφ
   subst hb
   cases b
   ·exact E3 _ _ _ _ _
   ·exact K4 _ _ _ _ _
  ·cases h
 ·split at h
  ·split at h
   ·rename_i hl
    cases h
    exact D4 hT hl hφ
   ·exact U7 hT h hφ
  ·cases h
 ·split at h
  ·exact aCo h
  ·cases h
 ·split at h
  ·split at h
   ·rename_i r hr;cases h;exact aCK hT hr hφ
   ·exact aCx hT h
  ·cases h
 ·split at h
  ·exact aDS h
  ·cases h
 ·split at h
  ·exact aA1 hT h hφ
  ·cases h
 ·rename_i fn first caps
  split at h
  ·rename_i f hf
   cases h
   have:first= #[]:=by simpa using hf
   subst this
   exact R6 _ _ _
  ·cases h
 ·split at h
  ·exact U5 hT h hφ
  ·cases h
 ·split at h
  ·exact V0 hT h hφ
  ·cases h
 ·split at h
  ·exact aCD hT h
  ·cases h
 ·split at h
  ·exact aCz hT h hφ
  ·cases h
 ·split at h
  ·exact U9 hT h hφ
  ·cases h
 ·split at h
  ·split at h
   ·rename_i hk;cases h;exact aAC _ _ _ _ hk
   ·cases h
  ·cases h
 ·exact V3 hT h
 ·rename_i c
  obtain⟨callee,args,tys⟩:=c
  dsimp only at h
  split at h
  ·have:=I1 (d:=d) (ty:=ty) (pos:=pos) (af:=af) (g:=g) hT h hφ
   simpa using this
  ·cases h
 ·cases h
end
end Go.Lift
