/- Operations on memory: loads, addresses, new blocks, stores. -/
import Derived.Test.YtlbojjldejlgaaaGreatTLiftC
namespace Go.Lift
open Go
def TI(P:Program)(t:TypeId)(u:TypeDesc)(z:Value)(size bytes:Nat):Prop:=
 P.underlying t=some u∧ ∃i,P.info? t=some i∧i.zero=some z∧i.size=size∧i.bytes=bytes
theorem TI.of{P:Program}{t:TypeId}{u:TypeDesc}{z:Value}{size bytes:Nat}(h:P.underlying t=some u)(hi:(P.info? t).map (fun i=>(i.zero,i.size,i.bytes))=some (some z,size,bytes)):TI P t u z size bytes:=by
 cases hq:P.info? t with
 |none=>rw [hq] at hi;cases hi
 |some i=>
  rw [hq] at hi;simp only [Option.map_some,Option.some.injEq,Prod.mk.injEq] at hi;exact⟨h,i,hq,hi.1,hi.2.1,hi.2.2⟩
def wO:TypeDesc→Bool
 | .struct _=>true
 | .array _ _=>true
 |_=>false
section runs
variable {P:Program} {t:TypeId} {u:TypeDesc} {z:Value} {size bytes:Nat} (w:World)
theorem TI.run_isAgg(h:TI P t u z size bytes):(isAgg t).run P w= .ok (wO u) w:=by obtain⟨h1,_⟩:=h;simp only [isAgg,Sem.run_bind,run_underlying h1,Result.andThen_ok];cases u<;>rfl
theorem TI.run_sizeOf(h:TI P t u z size bytes):(sizeOf t).run P w= .ok size w:=by obtain⟨_,i,h2,h3,h4,h5⟩:=h;simp [sizeOf,typeInfo,h2,h4]
theorem TI.run_zero(h:TI P t u z size bytes):(zeroValue t).run P w= .ok z w:=by obtain⟨_,i,h2,h3,h4,h5⟩:=h;simp [zeroValue,typeInfo,h2,h3]
theorem TI.run_loadVar1(h:TI P t u z size bytes)(hu:wO u=false){a:Addr}{v:Value}(hc:w.cell? a=some v):(loadVar t a).run P w= .ok v w:=by simp only [loadVar,Sem.run_bind,h.run_isAgg,Result.andThen_ok,hu];simp [hc]
theorem cY(b o i:Nat):(⟨b,o,none⟩:Addr).add i=⟨b,o+i,none⟩:=by unfold Addr.add;split<;>simp_all
theorem TI.run_loadVarN(h:TI P t u z size bytes)(hu:wO u=true){b o:Nat}{f:Nat→Value}(hc: ∀j,j<size→w.cell? ⟨b,o+j,none⟩=some (f j)):
  (loadVar t ⟨b,o,none⟩).run P w= .ok (.agg ((List.range size).map f).toArray) w:=by simp only [loadVar,Sem.run_bind,h.run_isAgg,h.run_sizeOf,Result.andThen_ok,hu,if_true];rw [run_loadCells w ⟨b,o,none⟩ size f fun j hj=>by rw [cY];exact hc j hj];rfl
end runs
section yields
variable {P:Program} {H:Nat→Option E} {d:Option Tmp} {ty:TypeId} {pos:String} {af:Array Edge} {g:Option (Nat×Bool)}
variable {t:TypeId} {u:TypeDesc} {z:Value} {size bytes:Nat}
theorem qY{β:Map}{w:World}{X:Nat→Prop}{id off:Nat}{u:Value}(h:RV β w X (.ref id off) u): ∃b,β id=some (some b,0)∧u= .pointer (some ⟨b,off,none⟩):=by cases h with|ref _ _ b hb=>exact⟨b,hb,rfl⟩
theorem iQ{β:Map}{w:World}{X:Nat→Prop}{id gen size i off:Nat}{u:Value}(h:RV β w X (.eref id gen size i off) u){q:Option Nat}(hq:β id=some (q,gen)): ∃b,q=some b∧u= .pointer (some ⟨b,i*size+off,none⟩):=by
 cases h with
 |eref _ _ _ _ _ b hg hb=>rw [hb] at hq;cases hq;exact⟨b,rfl,rfl⟩
 |erefOld _ _ _ _ _ _ q' g ho hb hg=>rw [hb] at hq;cases hq;omega
theorem gG{β:Map}{w:World}{X:Nat→Prop}{id:Nat}{ty:TypeId}{gen size:Nat}{rows:List (List T)}(h:RE β w X id (.arr ty gen size rows)): ∃q,β id=some (q,gen):=by
 rcases h.2 with ⟨h1,_⟩|⟨b,us,h1,_⟩
 ·exact⟨_,h1⟩
 exact⟨_,h1⟩
theorem aD3{β:Map}{w:World}{X:Nat→Prop}{cs:List T}{u:Value}(h:RV β w X (.tp cs) u): ∃(b off:Nat) (f:Nat→Value),u= .pointer (some ⟨b,off,none⟩)∧b<w.heap.size∧ ¬X b∧
  (∀j,j<cs.length→w.cell? ⟨b,off+j,none⟩=some (f j))∧ ∀(j:Nat) (x:T),cs[j]? =some x→RT w X x (f j):=by cases h with|tp _ b off f hb hX hc hr=>exact⟨b,off,f,rfl,hb,hX,hc,hr⟩
theorem aJa(x:Operand)(id off:Nat)(cs:List V)(c:V)(ht:TI P t u z size bytes)(hu:wO u=false)(hH:H id=some (.cells cs))(hc:cs[off]? =some c):
  Yield P H ⟨d,.load t x,ty,pos,af,g⟩ [.ref id off] c:=by
 intro β w X ρ hE ha;obtain⟨b,hb,hx⟩:=qY ha.1;obtain⟨b',us,ty',h1,h2,h3,h4⟩:=hE id _ hH;rw [hb] at h1;cases h1;have hlt:off<cs.length:=(cC.1 hc).1;have hcell:w.cell? ⟨b,off,none⟩=some us[off]:=by simp [World.cell?,h2,h3,hlt]
 refine⟨us[off],?_,h4 off c us[off] hc (by simp [h3,hlt])⟩;simp [execOp,hx,Instr.loadAt,Instr.sureAddr,ht.run_loadVar1 w hu hcell]
theorem aI9(x:Operand)(id off:Nat)(cs:List V)(ht:TI P t u z size bytes)(hu:wO u=true)(hH:H id=some (.cells cs))(hc:Nat.ble (off+size) cs.length=true):
  Yield P H ⟨d,.load t x,ty,pos,af,g⟩ [.ref id off] (.agg ((cs.drop off).take size)):=by
 intro β w X ρ hE ha;obtain⟨b,hb,hx⟩:=qY ha.1;obtain⟨b',us,ty',h1,h2,h3,h4⟩:=hE id _ hH;rw [hb] at h1;cases h1;have hle:off+size≤cs.length:=rZ hc;have hcell: ∀j,j<size→w.cell? ⟨b,off+j,none⟩=some (us.getD (off+j) undef):=fun j hj=>by
  have:off+j<us.size:=by omega
  simp [World.cell?,h2,this]
 refine⟨_,by simp [execOp,hx,Instr.loadAt,Instr.sureAddr,ht.run_loadVarN w hu hcell];rfl,?_⟩;refine .agg _ _ (by simp;omega) fun i c v hc' hv=>?_;have hi:i<size:=by
  have:=(cC.1 hc').1;simp at this;omega
 rw [vBs hi,D9] at hc';simp only [List.getElem?_toArray,List.getElem?_map,List.getElem?_range hi,Option.map_some,Option.some.injEq] at hv
 have:off+i<us.size:=by omega
 exact h4 (off+i) c v hc' (by rw [←hv];simp [this])
theorem aDo(x:Operand)(c:T)(r:List T)(ht:TI P t u z size bytes)(hu:wO u=false):Yield P H ⟨d,.load t x,ty,pos,af,g⟩ [.tp (c::r)] (.t c):=by intro β w X ρ hE ha;obtain⟨b,off,f,hx,hb,hX,hc,hr⟩:=aD3 ha.1;have h0:=hc 0 (by simp);refine⟨f 0,?_,.t _ _ (hr 0 c (by simp))⟩;simp only [execOp,hx,Instr.loadAt,Instr.sureAddr,Sem.run_bind,Sem.run_pure,Result.andThen_ok];rw [ht.run_loadVar1 w hu (v:=f 0) (by simpa using h0)];rfl
theorem aDn(x:Operand)(cs:List T)(ht:TI P t u z size bytes)(hu:wO u=true)(hc:size≤cs.length):
  Yield P H ⟨d,.load t x,ty,pos,af,g⟩ [.tp cs] (.agg ((cs.take size).map .t)):=by
 intro β w X ρ hE ha;obtain⟨b,off,f,hx,hb,hX,hc',hr⟩:=aD3 ha.1;refine⟨.agg ((List.range size).map f).toArray,?_,.agg _ _ (by simp;omega) fun i c v h1 h2=>?_⟩
 ·simp only [execOp,hx,Instr.loadAt,Instr.sureAddr,Sem.run_bind,Sem.run_pure,Result.andThen_ok];rw [ht.run_loadVarN w hu (f:=f) fun j hj=>hc' j (by omega)];rfl
 have hi:i<size:=by
  have:=(cC.1 h1).1;simp at this;omega
 rw [zG,vBs hi] at h1;simp only [List.getElem?_toArray,List.getElem?_map,List.getElem?_range hi,Option.map_some,Option.some.injEq] at h2;cases hx2:cs[i]? with
 |none=>rw [hx2] at h1;simp at h1
 |some x2=>rw [hx2] at h1;simp at h1;rw [←h1,←h2];exact .t _ _ (hr i x2 hx2)
theorem aAy(x:Operand)(id gen i off:Nat)(ty':TypeId)(sz:Nat)(rows:List (List T))(row:List T)(c:T)(ht:TI P t u z size bytes)(hu:wO u=false)(hH:H id=some (.arr ty' gen sz rows))(hr:rows[i]? =some row)(hc:row[off]? =some c):
  Yield P H ⟨d,.load t x,ty,pos,af,g⟩ [.eref id gen sz i off] (.t c):=by
 intro β w X ρ hE ha;obtain⟨q,hq⟩:=gG (hE id _ hH);obtain⟨b,hb0,hx⟩:=iQ ha.1 hq;subst hb0;have hb:=hq;rcases(hE id _ hH).2 with ⟨h1,h2⟩|⟨b',us,h1,h2,h3,h4,h5⟩
 ·rw [h2] at hr;simp at hr
 rw [hb] at h1;cases h1;have hi:i<rows.length:=(cC.1 hr).1;have ho:off<sz:=by
  have:=(cC.1 hc).1;rw [h4 row (dD hr)] at this;exact this
 have hlt:i*sz+off<us.size:=by
  have:(i+1)*sz≤rows.length*sz:=jL _ hi;rw [jJ] at this;omega
 have hcell:w.cell? ⟨b,i*sz+off,none⟩=some us[i*sz+off]:=by simp [World.cell?,h2,hlt]
 refine⟨us[i*sz+off],?_,.t _ _ (h5 i off row c _ hr hc (by simp [hlt]))⟩;simp [execOp,hx,Instr.loadAt,Instr.sureAddr,ht.run_loadVar1 w hu hcell]
theorem aBL(x:Operand)(id off k foff:Nat)(fs:Array Field)(fld:Field)(u':TypeDesc)(z':Value)(sz' by':Nat)(hs:P.underlying t=some (.struct fs))(hf:fs[k]? =some fld)(ho:fld.offset=foff)(htf:TI P fld.type u' z' sz' by')(hsz:(sz'==0)=false):
  Yield P H ⟨d,.fieldAddr t x k,ty,pos,af,g⟩ [.ref id off] (.ref id (off+foff)):=by
 intro β w X ρ hE ha;obtain⟨b,hb,hx⟩:=qY ha.1;have hsz':sz'≠0:=by simpa using hsz
 refine⟨.pointer (some ⟨b,off+foff,none⟩),?_,.ref _ _ _ hb⟩;simp [execOp,hx,Instr.fieldAt,run_underlying hs,hf,Instr.sureAddr,fieldPlace,htf.run_sizeOf,hsz',cY,ho]
theorem aDr(x:Operand)(cs:List T)(k foff:Nat)(fs:Array Field)(fld:Field)(u':TypeDesc)(z':Value)(sz' by':Nat)(hs:P.underlying t=some (.struct fs))(hf:fs[k]? =some fld)(ho:fld.offset=foff)(htf:TI P fld.type u' z' sz' by')(hsz:(sz'==0)=false):
  Yield P H ⟨d,.fieldAddr t x k,ty,pos,af,g⟩ [.tp cs] (.tp (cs.drop foff)):=by
 intro β w X ρ hE ha;have hsz':sz'≠0:=by simpa using hsz
 obtain⟨b,off,f,hx,hb,hX,hc',hr⟩:=aD3 ha.1;refine⟨.pointer (some ⟨b,off+foff,none⟩),?_,.tp _ b (off+foff) (fun j=>f (foff+j)) hb hX (fun j hj=>?_) fun j c h=>?_⟩
 ·simp [execOp,hx,Instr.fieldAt,run_underlying hs,hf,Instr.sureAddr,fieldPlace,htf.run_sizeOf,hsz',cY,ho]
 ·rw [vBq];exact hc' (foff+j) (by simp at hj;omega)
 exact hr (foff+j) c (by simpa using h)
theorem aAA(x:Operand)(id gen sz i off k foff:Nat)(fs:Array Field)(fld:Field)(u':TypeDesc)(z':Value)(sz' by':Nat)(hs:P.underlying t=some (.struct fs))(hf:fs[k]? =some fld)(ho:fld.offset=foff)(htf:TI P fld.type u' z' sz' by')(hsz:(sz'==0)=false)
  (ty':TypeId) (rows:List (List T)) (hH:H id=some (.arr ty' gen sz rows)):Yield P H ⟨d,.fieldAddr t x k,ty,pos,af,g⟩ [.eref id gen sz i off] (.eref id gen sz i (off+foff)):=by
 intro β w X ρ hE ha;obtain⟨q,hq⟩:=gG (hE id _ hH);obtain⟨b,hb0,hx⟩:=iQ ha.1 hq;subst hb0;have hb:=hq;have hsz':sz'≠0:=by simpa using hsz
 refine⟨.pointer (some ⟨b,i*sz+(off+foff),none⟩),?_,.eref _ _ _ _ _ _ (hE id _ hH).1 hb⟩;simp [execOp,hx,Instr.fieldAt,run_underlying hs,hf,Instr.sureAddr,fieldPlace,htf.run_sizeOf,hsz',cY,ho,Nat.add_assoc]
theorem aDq(x y:Operand)(e:TypeId)(rows:List (List T))(row:List T)(n:Nat)(ht:P.underlying t=some (.slice e))(he:TI P e u z size bytes)(hr:rows[n]? =some row)(hl:row.length=size):
  Yield P H ⟨d,.indexAddr t x y,ty,pos,af,g⟩ [.t (.sl rows),.t (.int .i64 (n:Nat))] (.tp row):=by
 intro β w X ρ hE ha;have hn:=aW ha.2.1;have hi:n<rows.length:=(cC.1 hr).1;cases ha.1 with
 |t _ _ h=>
  generalize hx:ρ x=v at h;cases h with
  |sl0 a cap=>simp at hr
  |sl _ b off size' cap f hb hX hcap hsz hc hrr=>
   have hs:size'=size:=by rw [←hl];exact(hsz row (dD hr)).symm
   subst hs;refine⟨.pointer (some ⟨b,off+n*size',none⟩),?_,.tp _ b (off+n*size') (fun j=>f n j) hb hX (fun j hj=>hc n j hi (by omega)) fun j c h=>hrr n j row c hr h⟩;simp [execOp,hx,hn,Instr.indexAt,asIntOf,run_underlying ht,he.run_sizeOf,cY];intro h;omega
theorem bP{β:Map}{w:World}{X:Nat→Prop}{id gen size off len:Nat}{u:Value}(h:RV β w X (.msl id gen size off len) u){q:Option Nat}(hq:β id=some (q,gen)):
  (∃cap b n ty,u= .slice (some ⟨b,off*size,none⟩) len cap∧q=some b∧b<w.heap.size∧w.shape? b=some (ty,n)∧(off+cap)*size=n∧len≤cap∧cap≤maxLen)∨
  (q=none∧off=0∧len=0∧u= .slice none 0 0):=by
 cases h with
 |msl _ _ _ _ _ cap b n ty hg hb hw hs hn hl hm=>rw [hb] at hq;cases hq;exact .inl ⟨cap,b,n,ty,rfl,rfl,hw,hs,hn,hl,hm⟩
 |msl0 _ _ _ hg hb=>rw [hb] at hq;cases hq;exact .inr ⟨rfl,rfl,rfl,rfl⟩
 |mslOld _ _ _ _ _ _ q' g ho hb hg=>rw [hb] at hq;cases hq;omega
theorem aBJ(x y:Operand)(e:TypeId)(id gen off len n:Nat)(ty2:TypeId)(rows:List (List T))(hH:H id=some (.arr ty2 gen size rows))(ht:P.underlying t=some (.slice e))(he:TI P e u z size bytes)(hi:n<len):
  Yield P H ⟨d,.indexAddr t x y,ty,pos,af,g⟩ [.msl id gen size off len,.t (.int .i64 (n:Nat))] (.eref id gen size (off+n) 0):=by
 intro β w X ρ hE ha;have hn:=aW ha.2.1;generalize hx:ρ x=v at ha;have ha1:=ha.1;simp only [hx] at ha1;obtain⟨q,hq⟩:=gG (hE id _ hH);rcases bP ha1 hq with ⟨cap,b,m,ty',rfl,hb0,hw,hs,hn',hl,hm⟩|⟨_,_,h0,_⟩
 ·subst hb0;refine⟨.pointer (some ⟨b,(off+n)*size+0,none⟩),?_,.eref _ _ _ _ _ b (hE id _ hH).1 hq⟩;simp [execOp,hx,hn,Instr.indexAt,asIntOf,run_underlying ht,he.run_sizeOf,cY,Nat.add_mul];intro h;omega
 omega
end yields
def V.one:V→Bool
 | .t _=>true
 | .ref _ _=>true
 | .tp _=>true
 | .msl _ _ _ _ _=>true
 | .eref _ _ _ _ _=>true
 | .fn _ _=>true
 | .agg _=>false
 | .tup _=>false
 | .junk=>false
def nT:List V→Bool
 | []=>true
 |v::vs=>v.one&&nT vs
theorem rM: ∀{vs:List V} {i:Nat} {v:V},nT vs=true→vs[i]? =some v→v.one=true
 |v::vs,0,_,h,h'=>by simp at h';subst h';simp [nT] at h;exact h.1
 |v::vs,i+1,_,h,h'=>by simp at h';simp [nT] at h;exact rM h.2 h'
 | [],_,_,_,h'=>by simp at h'
def V.cs:V→List V
 | .agg cs=>cs
 |v=>[v]
def V.val:V→Bool
 | .agg _=>true
 |v=>v.one
theorem RV.oneCell{β:Map}{w:World}{X:Nat→Prop}{v:V}{u:Value}(h:RV β w X v u)(ho:v.one=true):u.oneCell'=true:=by
 cases h with
 |t x v h=>cases h<;>rfl
 |agg=>cases ho
 |tup=>cases ho
 |ref=>rfl
 |tp=>rfl
 |msl=>rfl
 |msl0=>rfl
 |mslOld=>assumption
 |eref=>rfl
 |erefOld=>assumption
 |fn=>rfl
 |junk=>cases ho
theorem m8{u:Value}(h:u.oneCell'=true):u.cells= #[u]:=by cases u<;>first|rfl|cases h
theorem RV.cells{β:Map}{w:World}{X:Nat→Prop}{v:V}{u:Value}(h:RV β w X v u)(hv:v.val=true):
  u.cells.size=v.cs.length∧ ∀(i:Nat) c x,v.cs[i]? =some c→u.cells[i]? =some x→RV β w X c x:=by
 cases v with
 |agg cs=>
  cases h with|agg _ us hl h=>exact⟨hl,h⟩
 |tup=>cases hv
 |junk=>cases hv
 |t x=>
  have:=m8 (h.oneCell rfl);rw [this];exact⟨rfl,fun i c y h1 h2=>by cases i with|zero=>simp [V.cs] at h1 h2;subst h1;subst h2;exact h|succ n=>simp [V.cs] at h1⟩
 |ref a b=>
  have:=m8 (h.oneCell rfl);rw [this];exact⟨rfl,fun i c y h1 h2=>by cases i with|zero=>simp [V.cs] at h1 h2;subst h1;subst h2;exact h|succ n=>simp [V.cs] at h1⟩
 |tp a=>
  have:=m8 (h.oneCell rfl);rw [this];exact⟨rfl,fun i c y h1 h2=>by cases i with|zero=>simp [V.cs] at h1 h2;subst h1;subst h2;exact h|succ n=>simp [V.cs] at h1⟩
 |msl a b c d e=>
  have:=m8 (h.oneCell rfl);rw [this];exact⟨rfl,fun i c y h1 h2=>by cases i with|zero=>simp [V.cs] at h1 h2;subst h1;subst h2;exact h|succ n=>simp [V.cs] at h1⟩
 |eref a b c d e=>
  have:=m8 (h.oneCell rfl);rw [this];exact⟨rfl,fun i c y h1 h2=>by cases i with|zero=>simp [V.cs] at h1 h2;subst h1;subst h2;exact h|succ n=>simp [V.cs] at h1⟩
 |fn a b=>
  have:=m8 (h.oneCell rfl);rw [this];exact⟨rfl,fun i c y h1 h2=>by cases i with|zero=>simp [V.cs] at h1 h2;subst h1;subst h2;exact h|succ n=>simp [V.cs] at h1⟩
def S.new(s:S)(k:Nat)(e:E):S:={t:=s.t,H:=upd s.H k (some e),u:=upd s.u k true}
theorem Rel.new'{K:Ctx}{β:Map}{s:S}{a:Act}{w:World}(h:Rel K β s a w)(k gn:Nat)(hk:s.u k=false)(us:Array Value)(ty:TypeId)(e:E)
  (he: ∀(β':Map) (X':Nat→Prop) (w':World),w'=w.alloc (.cells us ty)→β' k=some (some w.heap.size,gn)→(∀v u,RV β w (own K β s.H) v u→RV β' w' X' v u)→(∀b,¬β'.n k b)→RE β' w' X' k e):
  Rel K (β.put k (some (some w.heap.size,gn))) (s.new k e) a (w.alloc (.cells us ty)):=by
 have hext: ∀X,Ext X w (w.alloc (.cells us ty)):=fun X=>Ext.alloc X w _;have hnone:β k=none:=h.dom _ hk;have hβ0: ∀id x,β id=some x→β.put k (some (some w.heap.size,gn)) id=some x:=fun id x hx=>by
  rw [aV _ _ _ _ (by intro e;subst e;rw [hnone] at hx;cases hx)];exact hx
 have hβ:=MLe.of hβ0;have hinv: ∀id b,At (β.put k (some (some w.heap.size,gn))) id b→(id=k∧b=w.heap.size)∨(id≠k∧At β id b):=fun id b hb=>by
  by_cases hi:id=k
  ·subst hi;rcases hb with ⟨g,hb⟩|hb
   ·rw [cW] at hb;cases hb;exact .inl ⟨rfl,rfl⟩
   exact absurd hb (h.domn _ _ hk)
  refine .inr ⟨hi,?_⟩;rcases hb with ⟨g,hb⟩|hb
  ·rw [aV _ _ _ _ hi] at hb;exact .inl ⟨g,hb⟩
  exact .inr hb
 have hown: ∀b,b<w.heap.size→own K (β.put k (some (some w.heap.size,gn))) (upd s.H k (some e)) b→own K β s.H b:=by
  rintro b hlt (hx|⟨id,h1,h2⟩)
  ·exact .inl hx
  rcases hinv id b h2 with ⟨rfl,rfl⟩|⟨hne,h3⟩
  ·omega
  rw [aH _ _ _ _ hne] at h1;exact .inr ⟨id,h1,h3⟩
 have hrv: ∀v u,RV β w (own K β s.H) v u→RV (β.put k (some (some w.heap.size,gn))) (w.alloc (.cells us ty)) (own K (β.put k (some (some w.heap.size,gn))) (upd s.H k (some e))) v u:=
  fun v u hv=>hv.mono (hext _) hown hβ (dA (hext _))
 refine {ext:=h.ext.trans ((hext fun _=>False).weaken fun _ _ h=>h.elim),gok:=h.gok,mg:=h.mg,xold:=h.xold,inj0:=h.inj0,base:= ?_,shp:=h.shp.ext h.ext.size (hext _),low:= ?_,dom:= ?_,domn:= ?_,inj:= ?_,fresh:= ?_,heap:= ?_,slots:=fun i=>hrv _ _ (h.slots i),nt:=h.nt,defers:=h.defers}
 ·refine h.base.keep fun id hid=>?_
  have:=h.low id hid;rw [aV _ _ _ _ (by intro e;subst e;rw [hk] at this;cases this)]
 ·intro id hid;show upd s.u k true id=true;by_cases e:id=k
  ·subst e;exact aI _ _ _
  rw [aH _ _ _ _ e];exact h.low id hid
 ·intro id hid;have hid':upd s.u k true id=false:=hid;by_cases e:id=k
  ·subst e;rw [aI] at hid';cases hid'
  rw [aH _ _ _ _ e] at hid';rw [aV _ _ _ _ e];exact h.dom id hid'
 ·intro id b hid;have hid':upd s.u k true id=false:=hid;by_cases e:id=k
  ·subst e;rw [aI] at hid';cases hid'
  rw [aH _ _ _ _ e] at hid';exact h.domn id b hid'
 ·intro id id' b h1 h2;rcases hinv id b h1 with ⟨rfl,rfl⟩|⟨_,h3⟩<;>rcases hinv id' _ h2 with ⟨rfl,e⟩|⟨_,h4⟩
  ·rfl
  ·have:=(h.fresh _ _ h4).2;omega
  ·subst e;have:=(h.fresh _ _ h3).2;omega
  exact h.inj _ _ _ h3 h4
 ·intro id b hb;rcases hinv id b hb with ⟨rfl,rfl⟩|⟨_,h3⟩
  ·exact⟨.inr h.ext.size,by simp⟩
  exact⟨(h.fresh _ _ h3).1,by have:=(h.fresh _ _ h3).2;simp;omega⟩
 intro id e' he';have he':upd s.H k (some e) id=some e':=he';show upd s.u k true id=true∧RE _ _ (own K _ (upd s.H k (some e))) id e';by_cases hi:id=k
 ·subst hi;rw [aI] at he';cases he';exact⟨aI _ _ _,he _ _ _ rfl (cW _ _ _) hrv fun b=>h.domn _ b hk⟩
 rw [aH _ _ _ _ hi] at he';obtain⟨h1,h2⟩:=h.heap id e' he';exact⟨by rw [aH _ _ _ _ hi];exact h1,h2.mono (hext _) hown hβ (hβ0 id) (dA (hext _)) fun b hb=>nM _ _ _ (h.fresh id b hb).2⟩
theorem Rel.new{K:Ctx}{β:Map}{s:S}{a:Act}{w:World}(h:Rel K β s a w)(k gn:Nat)(hk:s.u k=false)(us:Array Value)(ty:TypeId)(e:E)
  (he: ∀(β':Map) (X':Nat→Prop) (w':World),w'=w.alloc (.cells us ty)→β' k=some (some w.heap.size,gn)→(∀v u,RV β w (own K β s.H) v u→RV β' w' X' v u)→RE β' w' X' k e):
  Rel K (β.put k (some (some w.heap.size,gn))) (s.new k e) a (w.alloc (.cells us ty)):=
 h.new' k gn hk us ty e fun β' X' w' h1 h2 h3 _=>he β' X' w' h1 h2 h3
theorem Rel.newCells{K:Ctx}{β:Map}{s:S}{a:Act}{w:World}(h:Rel K β s a w)(k:Nat)(hk:s.u k=false)(us:Array Value)(ty:TypeId)(cs:List V)(hl:us.size=cs.length)
  (hc: ∀(i:Nat) c u,cs[i]? =some c→us[i]? =some u→RV β w (own K β s.H) c u):
  Rel K (β.put k (some (some w.heap.size,0))) (s.new k (.cells cs)) a (w.alloc (.cells us ty)):=
 h.new k 0 hk us ty _ fun β' X' w' hw hn hrv=>⟨w.heap.size,us,ty,hn,by subst hw;exact bG _ _,hl,fun i c u h1 h2=>hrv _ _ (hc i c u h1 h2)⟩
section ops
variable {K:Ctx} {s:S} {d:Option Tmp} {ty:TypeId} {pos:String} {af:Array Edge} {g:Option (Nat×Bool)}
variable {t:TypeId} {u:TypeDesc} {z:Value} {size bytes:Nat}
theorem aM4(k:Nat)(hk0:s.u k=false)(x:Operand)(v:V)(hd: ∀i,d=some i→Nat.blt i K.nt=true)(hx:s.get x=v)(hv:v.val=true):
  OpJ K ⟨d,.box t x,ty,pos,af,g⟩ s ((s.new k (.cells v.cs)).put d (.ref k 0)):=by
 intro β a w next Q hr hk
 subst hx;obtain⟨h1,h2⟩:=(hr.get x).cells hv;unfold Oper.wp;have hrun:(execOp a.eval ⟨d,.box t x,ty,pos,af,g⟩).run K.P w= .ok (.value (.pointer (some ⟨w.heap.size,0,none⟩))) (w.alloc (.cells (a.eval x).cells t)):=by
  simp [execOp,Instr.box,newVar,newRow]
 rw [hrun];exact hk _ _ _ ((hr.newCells k hk0 _ t _ h1 h2).put d hd (.ref _ _ _ (aI _ _ _)))
theorem aKa(k:Nat)(hk0:s.u k=false)(hd: ∀i,d=some i→Nat.blt i K.nt=true)(ht:TI K.P t u z size bytes)(hv:(cP z).val=true):
  OpJ K ⟨d,.alloc t,ty,pos,af,g⟩ s ((s.new k (.cells (cP z).cs)).put d (.ref k 0)):=by
 intro β a w next Q hr hk
 obtain⟨h1,h2⟩:=(nH β w (own K β s.H) z).cells hv;unfold Oper.wp;have hrun:(execOp a.eval ⟨d,.alloc t,ty,pos,af,g⟩).run K.P w= .ok (.value (.pointer (some ⟨w.heap.size,0,none⟩))) (w.alloc (.cells z.cells t)):=by
  simp [execOp,Instr.alloc,ht.run_zero,newVar,newRow]
 rw [hrun];exact hk _ _ _ ((hr.newCells k hk0 _ t _ h1 h2).put d hd (.ref _ _ _ (aI _ _ _)))
def splice(cs:List V)(off:Nat)(vs:List V):List V:=cs.take off++vs++cs.drop (off+vs.length)
theorem qK{w:World}{b:Nat}{old us:Array Value}{ty:TypeId}(hg:w.heap[b]? =some (.cells old ty (0,0)))(hsz:us.size=old.size)(b':Nat):(w.setRow b us).shape? b'=w.shape? b':=by
 by_cases hbb:b'=b
 ·subst hbb;unfold World.shape?;rw [setRow_heap _ _ _ _ _ _ hg,hg];simp [hsz]
 exact eV (setRow_other _ _ _ _ hbb)
theorem Rel.setRow{K:Ctx}{β:Map}{s:S}{a:Act}{w:World}(h:Rel K β s a w)(id b:Nat)(hb:At β id b)(old:Array Value)(ty:TypeId)(hg:w.heap[b]? =some (.cells old ty (0,0)))(us:Array Value)(hsz:us.size=old.size)(e:E)(hH:s.H id≠none)
  (he:RE β (w.setRow b us) (own K β s.H) id e):Rel K β {s with H:=upd s.H id (some e)} a (w.setRow b us):=by
 have hownb:own K β s.H b:= .inr ⟨id,hH,hb⟩;have hext:Ext (own K β s.H) w (w.setRow b us):=⟨rfl,rfl,rfl,by simp,fun k _ hx=>setRow_other _ _ _ _ fun e=>hx (e▸hownb)⟩
 have hsh:Shaped β w (w.setRow b us):=by
  intro b' _;by_cases hbb:b'=b
  ·subst hbb;unfold World.shape?;rw [setRow_heap _ _ _ _ _ _ hg,hg];simp [hsz]
  exact eV (setRow_other _ _ _ _ hbb)
 have hown: ∀b',own K β (upd s.H id (some e)) b'→own K β s.H b':=by
  rintro b' (hx|⟨id',h1,h2⟩)
  ·exact .inl hx
  by_cases hi:id'=id
  ·subst hi;exact .inr ⟨id',hH,h2⟩
  rw [aH _ _ _ _ hi] at h1;exact .inr ⟨id',h1,h2⟩
 have hrv: ∀v u,RV β w (own K β s.H) v u→RV β (w.setRow b us) (own K β (upd s.H id (some e))) v u:=fun v u hv=>hv.mono hext (fun b' _=>hown b') (MLe.refl _) hsh;have hM:K.M b∨K.w0.heap.size≤b:=(h.fresh id b hb).1;refine {h with ext:=h.ext.trans' ⟨rfl,rfl,rfl,by simp,fun k hk hx=>setRow_other _ _ _ _ ?_⟩,shp:=fun b' h3=>(qK hg hsz b').trans (h.shp b' h3),fresh:= ?_,heap:= ?_,slots:=fun i=>hrv _ _ (h.slots i)}
 ·intro e;subst e;rcases hM with h1|h1
  ·exact hx fun hh=>hh.2 h1
  exact hx fun hh=>by omega
 ·intro id' b' h';exact⟨(h.fresh id' b' h').1,by have:=(h.fresh id' b' h').2;simpa using this⟩
 intro id' e' he';have he':upd s.H id (some e) id'=some e':=he';show s.u id'=true∧RE β (w.setRow b us) (own K β (upd s.H id (some e))) id' e';by_cases hi:id'=id
 ·subst hi;rw [aI] at he';cases he';cases hh:s.H id' with
  |none=>exact absurd hh hH
  |some e0=>
   exact⟨(h.heap id' e0 hh).1,he.mono (Ext.refl _ _) (fun b' _=>hown b') (MLe.refl _) (fun _ h=>h) (Shaped.refl _ _) fun _ _=>rfl⟩
 rw [aH _ _ _ _ hi] at he';obtain⟨h1,h2⟩:=h.heap id' e' he';exact⟨h1,h2.mono hext (fun b' _=>hown b') (MLe.refl _) (fun _ h=>h) hsh fun b' hb'=>setRow_other _ _ _ _ fun e=>hi (h.inj id' id b' hb' (e▸hb))⟩
theorem J1(cs vs:List V)(off:Nat)(h:off+vs.length≤cs.length)(us ws:List Value)(hu:us.length=cs.length)(hw:ws.length=vs.length){R:V→Value→Prop}
  (h1: ∀(i:Nat) c u,cs[i]? =some c→us[i]? =some u→R c u) (h2: ∀(i:Nat) c u,vs[i]? =some c→ws[i]? =some u→R c u):
  ∀(i:Nat) c u,(splice cs off vs)[i]? =some c→(us.take off++ws++us.drop (off+ws.length))[i]? =some u→R c u:=by
 intro i c u hc hu';simp only [splice,List.getElem?_append,List.length_append,List.length_take,List.getElem?_take,List.getElem?_drop] at hc hu';by_cases a1:i<off
 ·rw [if_pos (by omega),if_pos (by omega),if_pos a1] at hc;rw [if_pos (by omega),if_pos (by omega),if_pos a1] at hu';exact h1 i c u hc hu'
 by_cases a2:i<off+vs.length
 ·rw [if_pos (by omega),if_neg (by omega)] at hc;rw [if_pos (by omega),if_neg (by omega)] at hu';rw [show i-min off cs.length=i-off by omega] at hc;rw [show i-min off us.length=i-off by omega] at hu';exact h2 _ c u hc hu'
 rw [if_neg (by omega)] at hc;rw [if_neg (by omega)] at hu';rw [show off+vs.length+(i-(min off cs.length+vs.length))=i by omega] at hc;rw [show off+ws.length+(i-(min off us.length+ws.length))=i by omega] at hu';exact h1 i c u hc hu'
theorem mM{P:Program}(ht:TI P t u z size bytes)(w:World)(b o:Nat)(cur:Array Value)(ty':TypeId)(v:Value)(hg:w.heap[b]? =some (.cells cur ty' (0,0)))
  (hs:v.cells.size=size) (ho:o+size≤cur.size) (h1: ∀x∈v.cells.toList,x.oneCell'=true):
  (storeVar t ⟨b,o,none⟩ v).run P w= .ok () (w.setRow b (cur.toList.take o++v.cells.toList++cur.toList.drop (o+v.cells.toList.length)).toArray):=by have:=run_storeCells_at P b o ty' v.cells.toList 0 cur w hg (by simp [hs];omega) h1;simp only [storeVar,Sem.run_bind,ht.run_sizeOf,Result.andThen_ok,hs,ne_eq,not_true,if_false];simpa using this
theorem aJ8(x y:Operand)(id off:Nat)(cs:List V)(v:V)(hx:s.get x= .ref id off)(hy:s.get y=v)(hH:s.H id=some (.cells cs))(ht:TI K.P t u z size bytes)
  (hv:v.val=true) (ho:nT v.cs=true) (hs:Nat.beq v.cs.length size=true) (hl:Nat.ble (off+size) cs.length=true):
  OpJ K ⟨none,.store t x y,ty,pos,af,g⟩ s {s with H:=upd s.H id (some (.cells (splice cs off v.cs)))}:=by
 intro β a w next Q hr hk
 subst hy;have hxv:=hr.get x;rw [hx] at hxv;obtain⟨b,hb,hxe⟩:=qY hxv;obtain⟨b',us,ty',h1,h2,h3,h4⟩:=(hr.heap id _ hH).2;rw [hb] at h1;cases h1;obtain⟨c1,c2⟩:=(hr.get y).cells hv;have hsz:(a.eval y).cells.size=size:=by rw [c1];exact fV hs
 have hle:off+size≤cs.length:=rZ hl;have hone: ∀e∈(a.eval y).cells.toList,e.oneCell'=true:=by
  intro e he;obtain⟨i,hi⟩:=vAG.1 he;have hi':(a.eval y).cells[i]? =some e:=by simpa using hi
  have hlt:i<(s.get y).cs.length:=by rw [←c1];exact(vAx.1 hi').1
  exact(c2 i _ e (dH hlt) hi').oneCell (rM ho (dH hlt))
 unfold Oper.wp;have hrun:=mM ht w b off us ty' (a.eval y) h2 hsz (by omega) hone;have hrun':(execOp a.eval ⟨none,.store t x y,ty,pos,af,g⟩).run K.P w= .ok .skip (w.setRow b (us.toList.take off++(a.eval y).cells.toList++us.toList.drop (off+(a.eval y).cells.toList.length)).toArray):=by
  simp only [execOp,hxe,Instr.storeAt,Instr.sureAddr,Sem.run_bind,Sem.run_pure,Result.andThen_ok,hrun]
 rw [hrun'];have hlen:(us.toList.take off++(a.eval y).cells.toList++us.toList.drop (off+(a.eval y).cells.toList.length)).length=us.size:=by
  simp [hsz];omega
 refine hk β _ _ (Rel.setRow hr id b (.inl ⟨_,hb⟩) us ty' h2 _ (by simpa using hlen) (.cells (splice cs off (s.get y).cs)) (by rw [hH];simp) ?_);refine⟨b,_,ty',hb,setRow_heap _ _ _ _ _ _ h2,?_,?_⟩
 ·simp only [List.size_toArray,hlen,h3];simp [splice]
  have:=fV hs;omega
 intro i c e hc he;have hb':own K β s.H b:= .inr ⟨id,by rw [hH];simp,.inl ⟨_,hb⟩⟩;have hmono: ∀v u,RV β w (own K β s.H) v u→RV β (w.setRow b (us.toList.take off++(a.eval y).cells.toList++us.toList.drop (off+(a.eval y).cells.toList.length)).toArray) (own K β s.H) v u:=by
  intro v u hv;refine hv.mono ⟨rfl,rfl,rfl,by simp,fun k _ hx=>setRow_other _ _ _ _ fun e=>hx (e▸hb')⟩ (fun _ _ h=>h) (MLe.refl _) ?_;intro b' _;by_cases hbb:b'=b
  ·subst hbb;unfold World.shape?;rw [setRow_heap _ _ _ _ _ _ h2,h2];simp only [List.size_toArray,hlen]
  exact eV (setRow_other _ _ _ _ hbb)
 refine hmono _ _ (J1 cs (s.get y).cs off (by have:=fV hs;omega) us.toList (a.eval y).cells.toList (by simpa using h3) (by simpa using c1) (fun i c u h5 h6=>h4 i c u h5 (by simpa using h6)) (fun i c u h5 h6=>c2 i c u h5 (by simpa using h6)) i c e hc ?_);simpa using he
end ops
end Go.Lift
