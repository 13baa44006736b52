/- Operations that only compute, one rule each. -/
import Derived.Test.YtlbojjldejlgaaaGreatTLiftDE
namespace Go.Lift
open Go
section yields
variable {P:Program} {H:Nat→Option E} {d:Option Tmp} {ty:TypeId} {pos:String} {af:Array Edge} {g:Option (Nat×Bool)}
variable {t:TypeId} {u:TypeDesc} {z:Value} {size bytes:Nat}
theorem aMo(x y:Operand)(t t':TypeId)(k:IntKind)(m n:Int):Yield P H ⟨d,.binOp .sub t x y t',ty,pos,af,g⟩ [.t (.int k m),.t (.int k n)] (.t (.int k (k.wrap (m-n)))):=by intro β w X ρ _ ha;refine⟨.int k (k.wrap (m-n)),?_,.t _ _ (.int _ _)⟩;simp [execOp,aW ha.1,aW ha.2.1,eqGuard,binOp,Op.intArith]
theorem aMu(x y:Operand)(t t':TypeId)(k:IntKind)(m n:Int):Yield P H ⟨d,.binOp .mul t x y t',ty,pos,af,g⟩ [.t (.int k m),.t (.int k n)] (.t (.int k (k.wrap (m*n)))):=by intro β w X ρ _ ha;refine⟨.int k (k.wrap (m*n)),?_,.t _ _ (.int _ _)⟩;simp [execOp,aW ha.1,aW ha.2.1,eqGuard,binOp,Op.intArith]
theorem aMq(x y:Operand)(t t':TypeId)(k:IntKind)(m n:Int)(h:n≠0):Yield P H ⟨d,.binOp .quo t x y t',ty,pos,af,g⟩ [.t (.int k m),.t (.int k n)] (.t (.int k (k.wrap (m.tdiv n)))):=by intro β w X ρ _ ha;refine⟨.int k (k.wrap (m.tdiv n)),?_,.t _ _ (.int _ _)⟩;simp [execOp,aW ha.1,aW ha.2.1,eqGuard,binOp,Op.intDiv,h]
theorem aMp(x y:Operand)(t t':TypeId)(k:IntKind)(m n:Int)(h:n≠0):Yield P H ⟨d,.binOp .rem t x y t',ty,pos,af,g⟩ [.t (.int k m),.t (.int k n)] (.t (.int k (m.tmod n))):=by intro β w X ρ _ ha;refine⟨.int k (m.tmod n),?_,.t _ _ (.int _ _)⟩;simp [execOp,aW ha.1,aW ha.2.1,eqGuard,binOp,Op.intDiv,h]
theorem aMB(x y:Operand)(t t':TypeId)(k:IntKind)(m n:Int):Yield P H ⟨d,.binOp .eql t x y t',ty,pos,af,g⟩ [.t (.int k m),.t (.int k n)] (.t (.bool (decide (m=n)))):=by intro β w X ρ _ ha;refine⟨.bool (decide (m=n)),?_,.t _ _ (.bool _)⟩;simp [execOp,aW ha.1,aW ha.2.1,eqGuard,binOp,Op.intCmp];rfl
theorem aMs(x y:Operand)(t t':TypeId)(k:IntKind)(m n:Int):Yield P H ⟨d,.binOp .neq t x y t',ty,pos,af,g⟩ [.t (.int k m),.t (.int k n)] (.t (.bool (!decide (m=n)))):=by intro β w X ρ _ ha;refine⟨.bool (!decide (m=n)),?_,.t _ _ (.bool _)⟩;simp [execOp,aW ha.1,aW ha.2.1,eqGuard,binOp,Op.intCmp];rfl
theorem aMx(x y:Operand)(t t':TypeId)(k:IntKind)(m n:Int):Yield P H ⟨d,.binOp .lss t x y t',ty,pos,af,g⟩ [.t (.int k m),.t (.int k n)] (.t (.bool (decide (m<n)))):=by intro β w X ρ _ ha;refine⟨.bool (decide (m<n)),?_,.t _ _ (.bool _)⟩;simp [execOp,aW ha.1,aW ha.2.1,eqGuard,binOp,Op.intCmp]
theorem aMy(x y:Operand)(t t':TypeId)(k:IntKind)(m n:Int):Yield P H ⟨d,.binOp .leq t x y t',ty,pos,af,g⟩ [.t (.int k m),.t (.int k n)] (.t (.bool (decide (m≤n)))):=by intro β w X ρ _ ha;refine⟨.bool (decide (m≤n)),?_,.t _ _ (.bool _)⟩;simp [execOp,aW ha.1,aW ha.2.1,eqGuard,binOp,Op.intCmp]
theorem aMz(x y:Operand)(t t':TypeId)(k:IntKind)(m n:Int):Yield P H ⟨d,.binOp .gtr t x y t',ty,pos,af,g⟩ [.t (.int k m),.t (.int k n)] (.t (.bool (decide (n<m)))):=by intro β w X ρ _ ha;refine⟨.bool (decide (n<m)),?_,.t _ _ (.bool _)⟩;simp [execOp,aW ha.1,aW ha.2.1,eqGuard,binOp,Op.intCmp]
theorem aMA(x y:Operand)(t t':TypeId)(k:IntKind)(m n:Int):Yield P H ⟨d,.binOp .geq t x y t',ty,pos,af,g⟩ [.t (.int k m),.t (.int k n)] (.t (.bool (decide (n≤m)))):=by intro β w X ρ _ ha;refine⟨.bool (decide (n≤m)),?_,.t _ _ (.bool _)⟩;simp [execOp,aW ha.1,aW ha.2.1,eqGuard,binOp,Op.intCmp]
theorem aMC(x y:Operand)(t t':TypeId)(m n:List UInt8)(h:(m.length:Int)+n.length≤9223372036854775807):Yield P H ⟨d,.binOp .add t x y t',ty,pos,af,g⟩ [.t (.str m),.t (.str n)] (.t (.str (m++n))):=by
 intro β w X ρ _ ha;refine⟨.string ⟨(m++n).toArray⟩,?_,.t _ _ (.str _)⟩;have h1:(ByteArray.mk m.toArray).size=m.length:=by simp [ByteArray.size]
 have h2:(ByteArray.mk n.toArray).size=n.length:=by simp [ByteArray.size]
 have h4:(ByteArray.mk m.toArray)++(ByteArray.mk n.toArray)=ByteArray.mk (m++n).toArray:=by
  apply ByteArray.ext;simp
 simp [execOp,cV ha.1,cV ha.2.1,eqGuard,binOp,Op.stringOp,h1,h2,h4];exact h
theorem aK4(x y:Operand)(t t':TypeId)(m n:List UInt8):Yield P H ⟨d,.binOp .eql t x y t',ty,pos,af,g⟩ [.t (.str m),.t (.str n)] (.t (.bool (decide (m=n)))):=by intro β w X ρ _ ha;refine⟨.bool (decide (m=n)),?_,.t _ _ (.bool _)⟩;simp [execOp,cV ha.1,cV ha.2.1,eqGuard,binOp,Op.stringOp];exact Bool.eq_iff_iff.2 (by simp)
theorem aKZ(x y:Operand)(t t':TypeId)(m n:List UInt8):Yield P H ⟨d,.binOp .neq t x y t',ty,pos,af,g⟩ [.t (.str m),.t (.str n)] (.t (.bool (!decide (m=n)))):=by intro β w X ρ _ ha;refine⟨.bool (!decide (m=n)),?_,.t _ _ (.bool _)⟩;simp [execOp,cV ha.1,cV ha.2.1,eqGuard,binOp,Op.stringOp];exact Bool.eq_iff_iff.2 (by simp)
theorem aK3(x y:Operand)(t t':TypeId)(m n:List UInt8):Yield P H ⟨d,.binOp .geq t x y t',ty,pos,af,g⟩ [.t (.str m),.t (.str n)] (.t (.bool (!Op.bytesLess m n))):=by intro β w X ρ _ ha;refine⟨.bool (!Op.bytesLess m n),?_,.t _ _ (.bool _)⟩;simp [execOp,cV ha.1,cV ha.2.1,eqGuard,binOp,Op.stringOp]
theorem aGH(x y:Operand)(l:List UInt8)(n:Nat)(b:UInt8)(ht:P.underlying t=some .string)(h:l[n]? =some b):Yield P H ⟨d,.index t x y,ty,pos,af,g⟩ [.t (.str l),.t (.int .i64 (n:Nat))] (.t (.int .u8 b.toNat)):=by
 intro β w X ρ _ ha;refine⟨.int .u8 b.toNat,?_,.t _ _ (.int _ _)⟩;have h2:(ByteArray.mk l.toArray)[n]? =some b:=by
  have hlt:=(cC.1 h).1;have hv:=(cC.1 h).2;rw [getElem?_pos _ _ (by simpa [ByteArray.size] using hlt)];simpa [ByteArray.getElem_eq_getElem_data] using hv
 simp [execOp,cV ha.1,aW ha.2.1,Instr.index,asIntOf,run_underlying ht,h2]
theorem aMr(x:Operand)(t:TypeId)(b:Bool):Yield P H ⟨d,.unOp .not t x,ty,pos,af,g⟩ [.t (.bool b)] (.t (.bool (!b))):=by intro β w X ρ _ ha;refine⟨.bool (!b),?_,.t _ _ (.bool _)⟩;simp [execOp,gT ha.1,Op.unary]
theorem zL(w:World)(n:Nat)(a b:Bool)(ht:P.underlying t=some .bool):(Op.equalIn (n+1) t (.bool a) (.bool b)).run P w= .ok (a==b) w:=by simp [Op.equalIn,run_underlying ht]
theorem sV(w:World)(a b:Bool)(ht:P.underlying t=some .bool):(Op.equal t (.bool a) (.bool b)).run P w= .ok (a==b) w:=zL w 9999 a b ht
theorem aEO(a b:Bool):binOp .eql t (.bool a) (.bool b)=(do pure (.bool (←Op.equal t (.bool a) (.bool b)))):=rfl
theorem aEN(a b:Bool):binOp .neq t (.bool a) (.bool b)=(do pure (.bool (!(←Op.equal t (.bool a) (.bool b))))):=rfl
theorem aLb(x y:Operand)(t':TypeId)(m n:Bool)(ht:P.underlying t=some .bool):Yield P H ⟨d,.binOp .eql t x y t',ty,pos,af,g⟩ [.t (.bool m),.t (.bool n)] (.t (.bool (m==n))):=by intro β w X ρ _ ha;refine⟨.bool (m==n),?_,.t _ _ (.bool _)⟩;simp [execOp,gT ha.1,gT ha.2.1,eqGuard,aEO,sV w m n ht]
theorem aLa(x y:Operand)(t':TypeId)(m n:Bool)(ht:P.underlying t=some .bool):Yield P H ⟨d,.binOp .neq t x y t',ty,pos,af,g⟩ [.t (.bool m),.t (.bool n)] (.t (.bool (!(m==n)))):=by intro β w X ρ _ ha;refine⟨.bool (!(m==n)),?_,.t _ _ (.bool _)⟩;simp [execOp,gT ha.1,gT ha.2.1,eqGuard,aEN,sV w m n ht]
theorem aGL(x:Operand)(src dst:TypeId)(k k':IntKind)(us:TypeDesc)(n:Int)(hs:P.underlying src=some us)(hd:P.underlying dst=some (.int k')):Yield P H ⟨d,.convert src dst x,ty,pos,af,g⟩ [.t (.int k n)] (.t (.int k' (k'.wrap n))):=by intro β w X ρ _ ha;refine⟨.int k' (k'.wrap n),?_,.t _ _ (.int _ _)⟩;simp only [execOp,aW ha.1,convert,Sem.run_bind,run_underlying hs,run_underlying hd,Result.andThen_ok];cases us<;>simp [Conv.intToInt]
theorem aFL(x:Operand)(l:List UInt8)(ht:P.underlying t=some .string):Yield P H ⟨d,.call {callee:= .builtin .len,args:= #[x],argTypes:= #[t]},ty,pos,af,g⟩ [.t (.str l)] (.t (.int .i64 (l.length:Nat))):=by
 intro β w X ρ _ ha;refine⟨.int .i64 (l.length:Nat),?_,.t _ _ (.int _ _)⟩;have hx:ρ x= .string ⟨l.toArray⟩:=cV ha.1;have h1:(ByteArray.mk l.toArray).size=l.length:=by simp [ByteArray.size]
 simp [execOp,resolve,invoke,builtin,hx,Builtin.len_,run_underlying ht,goInt,h1]
theorem aLJ{β:Map}{w:World}{X:Nat→Prop}{rows:List (List T)}{u:Value}(h:RV β w X (.t (.sl rows)) u): ∃a cap,u= .slice a rows.length cap:=by
 cases h with
 |t _ _ h=>cases h with
  |sl0 a cap=>exact⟨a,cap,rfl⟩
  |sl _ b off size cap=>exact⟨_,cap,rfl⟩
theorem aGJ(x:Operand)(e:TypeId)(rows:List (List T))(ht:P.underlying t=some (.slice e)):Yield P H ⟨d,.call {callee:= .builtin .len,args:= #[x],argTypes:= #[t]},ty,pos,af,g⟩ [.t (.sl rows)] (.t (.int .i64 (rows.length:Nat))):=by intro β w X ρ _ ha;obtain⟨a,cap,hx⟩:=aLJ ha.1;refine⟨.int .i64 (rows.length:Nat),?_,.t _ _ (.int _ _)⟩;have hx:ρ x=_:=hx;simp [execOp,resolve,invoke,builtin,hx,Builtin.len_,run_underlying ht,goInt]
theorem aFM(x:Operand)(e:TypeId)(id gen size off len:Nat)(ht:P.underlying t=some (.slice e))(ty2:TypeId)(rows:List (List T))(hH:H id=some (.arr ty2 gen size rows)):Yield P H ⟨d,.call {callee:= .builtin .len,args:= #[x],argTypes:= #[t]},ty,pos,af,g⟩ [.msl id gen size off len] (.t (.int .i64 (len:Nat))):=by
 intro β w X ρ hE ha;obtain⟨a,cap,hx⟩: ∃a cap,ρ x= .slice a len cap:=by
  have h1:RV β w X (.msl id gen size off len) (ρ x):=ha.1;obtain⟨q,hq⟩:=gG (hE id _ hH);rcases bP h1 hq with ⟨cap,b,m,ty',hx,_⟩|⟨_,_,h0,hx⟩
  ·exact⟨_,_,hx⟩
  exact⟨none,0,by rw [h0];exact hx⟩
 refine⟨.int .i64 (len:Nat),?_,.t _ _ (.int _ _)⟩;simp [execOp,resolve,invoke,builtin,hx,Builtin.len_,run_underlying ht,goInt]
theorem aFN(x:Operand)(vs:List V)(k:Nat)(v:V)(h:vs[k]? =some v):Yield P H ⟨d,.extract x k,ty,pos,af,g⟩ [.tup vs] v:=by
 intro β w X ρ _ ha;have h1:RV β w X (.tup vs) (ρ x):=ha.1;generalize hx:ρ x=y at h1;cases h1 with
 |tup _ us hl hr=>
  have hk:k<us.size:=by rw [hl];exact(cC.1 h).1
  refine⟨us[k],?_,hr k v us[k] h (by simp [hk])⟩;simp [execOp,hx,Instr.extract,hk]
theorem H5(x:Operand)(v:V)(hv:(match v with| .ref _ _=>true| .tp _=>true|_=>false)=true):Yield P H ⟨d,.nilCheck x,ty,pos,af,g⟩ [v] v:=by
 intro β w X ρ _ ha;have h1:RV β w X v (ρ x):=ha.1;refine⟨ρ x,?_,h1⟩;generalize hx:ρ x=y at h1;cases h1 with
 |ref=>simp [execOp,hx]
 |tp=>simp [execOp,hx]
 |eref=>cases hv
 |erefOld=>cases hv
 |mslOld=>cases hv
 |t=>cases hv
 |agg=>cases hv
 |tup=>cases hv
 |msl=>cases hv
 |msl0=>cases hv
 |fn=>cases hv
 |junk=>cases hv
theorem RVs.pts: ∀{β:Map} {w:World} {X:Nat→Prop} {vs:List V} {us:List Value},RVs β w X vs us→us.length=vs.length∧ ∀(i:Nat) c u,vs[i]? =some c→us[i]? =some u→RV β w X c u
 |_,_,_,[],[],_=>⟨rfl,fun i c u h _=>by simp at h⟩
 |_,_,_,v::vs,x::us,h=>by
  obtain⟨h1,h2⟩:=RVs.pts h.2;refine⟨by simp [h1],fun i c u hc hu=>?_⟩;cases i with
  |zero=>simp at hc hu;subst hc;subst hu;exact h.1
  |succ i=>simp at hc hu;exact h2 i c u hc hu
 |_,_,_,[],_::_,h=>h.elim
 |_,_,_,_::_,[],h=>h.elim
theorem aDm(f:FuncId)(caps:Array Operand)(vs:List V):Yield P H ⟨d,.makeFunc (.func f) #[] caps,ty,pos,af,g⟩ vs (.fn f vs):=by
 intro β w X ρ _ ha;have ha':RVs β w X vs (caps.toList.map ρ):=by simpa [Op.operands] using ha
 obtain⟨h1,h2⟩:=ha'.pts;exact⟨.func (.func f) #[] (caps.map ρ),by simp [execOp,Instr.makeFunc],.fn f vs _ (by simpa using h1) fun i c u hc hu=>h2 i c u hc (by simpa using hu)⟩
theorem aMw(x y:Operand)(ts:Array TypeId)(k:IntKind)(m n:Int):Yield P H ⟨d,.call {callee:= .builtin .max,args:= #[x,y],argTypes:=ts},ty,pos,af,g⟩ [.t (.int k m),.t (.int k n)] (.t (.int k (max m n))):=by
 intro β w X ρ _ ha;refine⟨.int k (max m n),?_,.t _ _ (.int _ _)⟩;have hx:ρ x= .int k m:=aW ha.1;have hy:ρ y= .int k n:=aW ha.2.1;have he:(if n>m then n else m)=max m n:=by split<;>omega
 have hm: ∀w,(Builtin.max_ ts ty #[.int k m,.int k n]).run P w= .ok (.int k (max m n)) w:=by
  intro w;simp only [Builtin.max_,List.foldlM,Builtin.max2,he];rfl
 simp [execOp,resolve,invoke,builtin,hx,hy,hm]
theorem aMv(x y:Operand)(ts:Array TypeId)(k:IntKind)(m n:Int):Yield P H ⟨d,.call {callee:= .builtin .min,args:= #[x,y],argTypes:=ts},ty,pos,af,g⟩ [.t (.int k m),.t (.int k n)] (.t (.int k (min m n))):=by
 intro β w X ρ _ ha;refine⟨.int k (min m n),?_,.t _ _ (.int _ _)⟩;have hx:ρ x= .int k m:=aW ha.1;have hy:ρ y= .int k n:=aW ha.2.1;have hm: ∀w,(Builtin.min_ ts ty #[.int k m,.int k n]).run P w= .ok (.int k (min m n)) w:=by
  intro w;simp only [Builtin.min_,List.foldlM,Builtin.min2]
  first|rfl|(rw [show min m n=(if n<m then n else m) from by split<;>omega];rfl)
 simp [execOp,resolve,invoke,builtin,hx,hy,hm]
end yields
section yields
variable {P:Program} {H:Nat→Option E} {d:Option Tmp} {ty:TypeId} {pos:String} {af:Array Edge} {g:Option (Nat×Bool)}
variable {t:TypeId} {u:TypeDesc} {z:Value} {size bytes:Nat}
theorem cG(w:World)(n:Nat)(y:Nat)(c:Go.BoundsCode)(h:n≤y):(Instr.sliceBound (.int .i64 (n:Nat)) y c).run P w= .ok n w:=by simp [Instr.sliceBound,asIntOf];intro h';omega
theorem wN(l:List UInt8)(a b:Nat):(ByteArray.mk l.toArray).extract a b=ByteArray.mk ((l.take b).drop a).toArray:=by apply ByteArray.ext;rw [ByteArray.data_extract];apply Array.ext';simp [List.extract_eq_take_drop,List.drop_take]
theorem aBF(x:Operand)(lo hi:Operand)(l:List UInt8)(a b:Nat)(ht:P.underlying t=some .string)(h1:a≤b)(h2:b≤l.length):
  Yield P H ⟨d,.slice t x (some lo) (some hi) none,ty,pos,af,g⟩ [.t (.str l),.t (.int .i64 (a:Nat)),.t (.int .i64 (b:Nat))] (.t (.str ((l.take b).drop a))):=by
 intro β w X ρ _ ha;refine⟨.string ⟨((l.take b).drop a).toArray⟩,?_,.t _ _ (.str _)⟩;have hx:ρ x=_:=cV ha.1;have hl:ρ lo=_:=aW ha.2.1;have hh:ρ hi=_:=aW ha.2.2.1;have hs:(ByteArray.mk l.toArray).size=l.length:=by simp [ByteArray.size]
 simp [execOp,hx,hl,hh,Instr.sliceAt,Instr.slice,run_underlying ht,Instr.sliceBounds,hs,cG w b l.length _ h2,cG w a b _ h1,wN]
theorem yS(x:Operand)(lo:Operand)(l:List UInt8)(a:Nat)(ht:P.underlying t=some .string)(h1:a≤l.length):
  Yield P H ⟨d,.slice t x (some lo) none none,ty,pos,af,g⟩ [.t (.str l),.t (.int .i64 (a:Nat))] (.t (.str (l.drop a))):=by
 intro β w X ρ _ ha;refine⟨.string ⟨(l.drop a).toArray⟩,?_,.t _ _ (.str _)⟩;have hx:ρ x=_:=cV ha.1;have hl:ρ lo=_:=aW ha.2.1;have hs:(ByteArray.mk l.toArray).size=l.length:=by simp [ByteArray.size]
 simp [execOp,hx,hl,Instr.sliceAt,Instr.slice,run_underlying ht,Instr.sliceBounds,hs,cG w a l.length _ h1,wN]
theorem H4(x:Operand)(hi:Operand)(l:List UInt8)(b:Nat)(ht:P.underlying t=some .string)(h2:b≤l.length):
  Yield P H ⟨d,.slice t x none (some hi) none,ty,pos,af,g⟩ [.t (.str l),.t (.int .i64 (b:Nat))] (.t (.str (l.take b))):=by
 intro β w X ρ _ ha;refine⟨.string ⟨(l.take b).toArray⟩,?_,.t _ _ (.str _)⟩;have hx:ρ x=_:=cV ha.1;have hh:ρ hi=_:=aW ha.2.1;have hs:(ByteArray.mk l.toArray).size=l.length:=by simp [ByteArray.size]
 simp [execOp,hx,hh,Instr.sliceAt,Instr.slice,run_underlying ht,Instr.sliceBounds,hs,cG w b l.length _ h2,wN]
theorem RT.part{w:World}{X:Nat→Prop}{rows:List (List T)}{v:Value}(h:RT w X (.sl rows) v)(a b size:Nat)(h1:a≤b)(h2:b≤rows.length)(hsz: ∀row,row∈rows→row.length=size):
  ∃ad cap,v= .slice ad rows.length cap∧rows.length≤cap∧RT w X (.sl ((rows.take b).drop a)) (.slice (if cap=a then ad else ad.map (·.add (a*size))) (b-a) (cap-a)):=by
 cases h with
 |sl0 ad cap=>
  have ha:a=0:=by simp at h2;omega
  have hb:b=0:=by simp at h2;omega
  subst ha;subst hb;exact⟨ad,cap,rfl,by simp,by simpa using RT.sl0 _ _⟩
 |sl _ b' off size' cap f hb hX hcap hsz' hc hr=>
  refine⟨_,cap,rfl,hcap,?_⟩;have hlen:((rows.take b).drop a).length=b-a:=by simp;omega
  by_cases hab:a=b
  ·subst hab;rw [show(rows.take a).drop a=[] by simp];rw [vBk];exact .sl0 _ _
  have hne:rows≠[]:=by intro e;subst e;simp at h2;omega
  obtain⟨r0,hr0⟩:=vBr rows hne;have hss:size'=size:=by rw [←hsz' r0 hr0,hsz r0 hr0]
  subst hss;rw [if_neg (by omega)];simp only [Option.map_some,cY];rw [←hlen];refine .sl _ b' (off+a*size') size' (cap-a) (fun i j=>f (a+i) j) hb hX (by rw [hlen];omega) (fun row hrow=>hsz row (vAw (vAB hrow))) (fun i j hi hj=>?_) fun i j row x h3 h4=>?_
  ·have:=hc (a+i) j (by rw [hlen] at hi;omega) hj;rw [jJ,←vBq] at this;exact this
  refine hr (a+i) j row x ?_ h4;rw [D9,D8] at h3;split at h3
  ·exact h3
  cases h3
theorem D6(x:Operand)(lo:Operand)(e:TypeId)(rows:List (List T))(a:Nat)(ht:P.underlying t=some (.slice e))(he:TI P e u z size bytes)(h1:a≤rows.length)(hsz: ∀row,row∈rows→row.length=size):
  Yield P H ⟨d,.slice t x (some lo) none none,ty,pos,af,g⟩ [.t (.sl rows),.t (.int .i64 (a:Nat))] (.t (.sl (rows.drop a))):=by
 intro β w X ρ _ ha;have hl:ρ lo=_:=aW ha.2.1;have h0:RV β w X (.t (.sl rows)) (ρ x):=ha.1;cases h0 with
 |t _ _ h=>
  obtain⟨ad,cap,hx,hcap,hr⟩:=h.part a rows.length size h1 (kF _) hsz;rw [wQ] at hr;refine⟨_,?_,.t _ _ hr⟩;simp [execOp,hx,hl,Instr.sliceAt,Instr.slice,run_underlying ht,Instr.sliceBounds,cG w a rows.length _ h1,he.run_sizeOf]
theorem S2(x:Operand)(hi:Operand)(e:TypeId)(rows:List (List T))(b:Nat)(ht:P.underlying t=some (.slice e))(he:TI P e u z size bytes)(h2:b≤rows.length)(hsz: ∀row,row∈rows→row.length=size):
  Yield P H ⟨d,.slice t x none (some hi) none,ty,pos,af,g⟩ [.t (.sl rows),.t (.int .i64 (b:Nat))] (.t (.sl (rows.take b))):=by
 intro β w X ρ _ ha;have hl:ρ hi=_:=aW ha.2.1;have h0:RV β w X (.t (.sl rows)) (ρ x):=ha.1;cases h0 with
 |t _ _ h=>
  obtain⟨ad,cap,hx,hcap,hr⟩:=h.part 0 b size (Nat.zero_le _) h2 hsz;simp only [List.drop_zero] at hr;refine⟨_,?_,.t _ _ hr⟩;simp [execOp,hx,hl,Instr.sliceAt,Instr.slice,run_underlying ht,Instr.sliceBounds,cG w b cap _ (by omega),he.run_sizeOf]
theorem aDk(x:Operand)(lo hi:Operand)(e:TypeId)(rows:List (List T))(a b:Nat)(ht:P.underlying t=some (.slice e))(he:TI P e u z size bytes)(h1:a≤b)(h2:b≤rows.length)(hsz: ∀row,row∈rows→row.length=size):
  Yield P H ⟨d,.slice t x (some lo) (some hi) none,ty,pos,af,g⟩ [.t (.sl rows),.t (.int .i64 (a:Nat)),.t (.int .i64 (b:Nat))] (.t (.sl ((rows.take b).drop a))):=by
 intro β w X ρ _ ha;have hl:ρ lo=_:=aW ha.2.1;have hh:ρ hi=_:=aW ha.2.2.1;have h0:RV β w X (.t (.sl rows)) (ρ x):=ha.1;cases h0 with
 |t _ _ h=>
  obtain⟨ad,cap,hx,hcap,hr⟩:=h.part a b size h1 h2 hsz;refine⟨_,?_,.t _ _ hr⟩;simp [execOp,hx,hl,hh,Instr.sliceAt,Instr.slice,run_underlying ht,Instr.sliceBounds,cG w b cap _ (by omega),cG w a b _ h1,he.run_sizeOf]
end yields
theorem RT.recap{w:World}{X:Nat→Prop}{rows:List (List T)}{ad:Option Addr}{n cap:Nat}(h:RT w X (.sl rows) (.slice ad n cap))(c:Nat)(hc:n≤c):RT w X (.sl rows) (.slice ad n c):=by
 cases h with
 |sl0=>exact .sl0 _ c
 |sl _ b off size _ f hb hX hcap hsz hcl hr=>exact .sl rows b off size c f hb hX hc hsz hcl hr
theorem aAv{P:Program}{H:Nat→Option E}{d:Option Tmp}{ty t:TypeId}{pos:String}{af:Array Edge}{g:Option (Nat×Bool)}{u:TypeDesc}{z:Value}{size bytes:Nat}(x hi mx:Operand)(e:TypeId)(rows:List (List T))(b:Nat)(ht:P.underlying t=some (.slice e))(he:TI P e u z size bytes)(h2:b≤rows.length)(hsz: ∀row,row∈rows→row.length=size):
  Yield P H ⟨d,.slice t x none (some hi) (some mx),ty,pos,af,g⟩ [.t (.sl rows),.t (.int .i64 (b:Nat)),.t (.int .i64 (b:Nat))] (.t (.sl (rows.take b))):=by
 intro β w X ρ _ ha;have hl:ρ hi=_:=aW ha.2.1;have hm:ρ mx=_:=aW ha.2.2.1;have h0:RV β w X (.t (.sl rows)) (ρ x):=ha.1;cases h0 with
 |t _ _ h=>
  obtain⟨ad,cap,hx,hcap,hr⟩:=h.part 0 b size (Nat.zero_le _) h2 hsz;simp only [List.drop_zero,Nat.zero_mul,Nat.sub_zero] at hr;have hr2:RT w X (.sl (rows.take b)) (.slice (if b=0 then ad else ad.map (·.add 0)) b b):=by
   by_cases hb:b=0
   ·subst hb;exact .sl0 _ _
   rw [if_neg (show¬cap=0 by omega)] at hr;rw [if_neg hb];exact hr.recap b (kF _)
  refine⟨_,?_,.t _ _ hr2⟩;simp [execOp,hx,hl,hm,Instr.sliceAt,Instr.slice,run_underlying ht,Instr.sliceBounds,cG w b cap _ (by omega),cG w b b _ (Nat.le_refl _),he.run_sizeOf]
end Go.Lift
