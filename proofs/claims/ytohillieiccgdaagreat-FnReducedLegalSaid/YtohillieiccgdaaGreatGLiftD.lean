/- Operations on memory: loads, addresses, new blocks, stores. -/
import Derived.Test.YtohillieiccgdaaGreatGLiftC
namespace Go.Lift
open Go
def TI(P:Program)(t:TypeId)(u:TypeDesc)(z:Value)(size bytes:Nat):Prop:=
 P.underlying t=some u∧ ∃i,P.info? t=some i∧i.zero=some z∧i.size=size∧i.bytes=bytes
theorem TI.of{P:Program}{t:TypeId}{u:TypeDesc}{z:Value}{size bytes:Nat}(h:P.underlying t=some u)(hi:(P.info? t).map (fun i=>(i.zero,i.size,i.bytes))=some (some z,size,bytes)):TI P t u z size bytes:=by
 cases hq:P.info? t with
 |none=>rw [hq] at hi;cases hi
 |some i=>
  rw [hq] at hi
  simp only [Option.map_some,Option.some.injEq,Prod.mk.injEq] at hi
  exact⟨h,i,hq,hi.1,hi.2.1,hi.2.2⟩
def vT:TypeDesc→Bool
 | .struct _=>true
 | .array _ _=>true
 |_=>false
section runs
variable {P:Program} {t:TypeId} {u:TypeDesc} {z:Value} {size bytes:Nat} (w:World)
theorem TI.run_isAgg(h:TI P t u z size bytes):(isAgg t).run P w= .ok (vT u) w:=by
 obtain⟨h1,_⟩:=h
 simp only [isAgg,Sem.run_bind,run_underlying h1,Result.andThen_ok]
 cases u<;>rfl
theorem TI.run_sizeOf(h:TI P t u z size bytes):(sizeOf t).run P w= .ok size w:=by
 obtain⟨_,i,h2,h3,h4,h5⟩:=h
 simp [sizeOf,typeInfo,h2,h4]
theorem TI.run_zero(h:TI P t u z size bytes):(zeroValue t).run P w= .ok z w:=by
 obtain⟨_,i,h2,h3,h4,h5⟩:=h
 simp [zeroValue,typeInfo,h2,h3]
theorem TI.run_loadVar1(h:TI P t u z size bytes)(hu:vT u=false){a:Addr}{v:Value}(hc:w.cell? a=some v):(loadVar t a).run P w= .ok v w:=by
 simp only [loadVar,Sem.run_bind,h.run_isAgg,Result.andThen_ok,hu]
 simp [hc]
theorem d9(b o i:Nat):(⟨b,o,none⟩:Addr).add i=⟨b,o+i,none⟩:=by unfold Addr.add;split<;>simp_all
theorem TI.run_loadVarN(h:TI P t u z size bytes)(hu:vT u=true){b o:Nat}{f:Nat→Value}(hc: ∀j,j<size→w.cell? ⟨b,o+j,none⟩=some (f j)):
  (loadVar t ⟨b,o,none⟩).run P w= .ok (.agg ((List.range size).map f).toArray) w:=by
 simp only [loadVar,Sem.run_bind,h.run_isAgg,h.run_sizeOf,Result.andThen_ok,hu,if_true]
 rw [run_loadCells w ⟨b,o,none⟩ size f (fun j hj=>by rw [d9];exact hc j hj)]
 rfl
end runs
section yields
variable {P:Program} {H:Nat→Option E} {d:Option Tmp} {ty:TypeId} {pos:String} {af:Array Edge} {g:Option (Nat×Bool)}
variable {t:TypeId} {u:TypeDesc} {z:Value} {size bytes:Nat}
theorem qJ{β:Map}{w:World}{X:Nat→Prop}{id off:Nat}{u:Value}(h:RV β w X (.ref id off) u): ∃b,β id=some (some b,0)∧u= .pointer (some ⟨b,off,none⟩):=by
 cases h with|ref _ _ b hb=>exact⟨b,hb,rfl⟩
theorem lL{β:Map}{w:World}{X:Nat→Prop}{id gen size i off:Nat}{u:Value}(h:RV β w X (.eref id gen size i off) u){q:Option Nat}(hq:β id=some (q,gen)): ∃b,q=some b∧u= .pointer (some ⟨b,i*size+off,none⟩):=by
 cases h with
 |eref _ _ _ _ _ b hg hb=>rw [hb] at hq;cases hq;exact⟨b,rfl,rfl⟩
 |erefOld _ _ _ _ _ _ q' g ho hb hg=>rw [hb] at hq;cases hq;omega
theorem kX{β:Map}{w:World}{X:Nat→Prop}{id:Nat}{ty:TypeId}{gen size:Nat}{rows:List (List T)}(h:RE β w X id (.arr ty gen size rows)): ∃q,β id=some (q,gen):=by
 rcases h.2 with ⟨h1,_⟩|⟨b,us,h1,_⟩
 ·exact⟨_,h1⟩
 ·exact⟨_,h1⟩
theorem aCl{β:Map}{w:World}{X:Nat→Prop}{cs:List T}{u:Value}(h:RV β w X (.tp cs) u): ∃(b off:Nat) (f:Nat→Value),u= .pointer (some ⟨b,off,none⟩)∧b<w.heap.size∧ ¬X b∧
  (∀j,j<cs.length→w.cell? ⟨b,off+j,none⟩=some (f j))∧ ∀(j:Nat) (x:T),cs[j]? =some x→RT w X x (f j):=by
 cases h with|tp _ b off f hb hX hc hr=>exact⟨b,off,f,rfl,hb,hX,hc,hr⟩
theorem aGT(x:Operand)(id off:Nat)(cs:List V)(c:V)(ht:TI P t u z size bytes)(hu:vT u=false)(hH:H id=some (.cells cs))(hc:cs[off]? =some c):
  Yield P H ⟨d,.load t x,ty,pos,af,g⟩ [.ref id off] c:=by
 intro β w X ρ hE ha
 obtain⟨b,hb,hx⟩:=qJ ha.1
 obtain⟨b',us,ty',h1,h2,h3,h4⟩:=hE id _ hH
 rw [hb] at h1;cases h1
 have hlt:off<cs.length:=(List.getElem?_eq_some_iff.1 hc).1
 have hcell:w.cell? ⟨b,off,none⟩=some us[off]:=by simp [World.cell?,h2,h3,hlt]
 refine⟨us[off],?_,h4 off c us[off] hc (by simp [h3,hlt])⟩
 simp [execOp,hx,Instr.loadAt,Instr.sureAddr,ht.run_loadVar1 w hu hcell]
theorem aGS(x:Operand)(id off:Nat)(cs:List V)(ht:TI P t u z size bytes)(hu:vT u=true)(hH:H id=some (.cells cs))(hc:Nat.ble (off+size) cs.length=true):
  Yield P H ⟨d,.load t x,ty,pos,af,g⟩ [.ref id off] (.agg ((cs.drop off).take size)):=by
 intro β w X ρ hE ha
 obtain⟨b,hb,hx⟩:=qJ ha.1
 obtain⟨b',us,ty',h1,h2,h3,h4⟩:=hE id _ hH
 rw [hb] at h1;cases h1
 have hle:off+size≤cs.length:=Nat.le_of_ble_eq_true hc
 have hcell: ∀j,j<size→w.cell? ⟨b,off+j,none⟩=some (us.getD (off+j) undef):=fun j hj=>by
  have:off+j<us.size:=by omega
  simp [World.cell?,h2,this]
 refine⟨_,by simp [execOp,hx,Instr.loadAt,Instr.sureAddr,ht.run_loadVarN w hu hcell];rfl,?_⟩
 refine .agg _ _ (by simp;omega) (fun i c v hc' hv=> ?_)
 have hi:i<size:=by
  have:=(List.getElem?_eq_some_iff.1 hc').1
  simp at this;omega
 rw [List.getElem?_take_of_lt hi,List.getElem?_drop] at hc'
 simp only [List.getElem?_toArray,List.getElem?_map,List.getElem?_range hi,Option.map_some,Option.some.injEq] at hv
 have:off+i<us.size:=by omega
 exact h4 (off+i) c v hc' (by rw [←hv];simp [this])
theorem aBO(x:Operand)(c:T)(r:List T)(ht:TI P t u z size bytes)(hu:vT u=false):Yield P H ⟨d,.load t x,ty,pos,af,g⟩ [.tp (c::r)] (.t c):=by
 intro β w X ρ hE ha
 obtain⟨b,off,f,hx,hb,hX,hc,hr⟩:=aCl ha.1
 have h0:=hc 0 (by simp)
 refine⟨f 0,?_,.t _ _ (hr 0 c (by simp))⟩
 simp only [execOp,hx,Instr.loadAt,Instr.sureAddr,Sem.run_bind,Sem.run_pure,Result.andThen_ok]
 rw [ht.run_loadVar1 w hu (v:=f 0) (by simpa using h0)]
 rfl
theorem aBN(x:Operand)(cs:List T)(ht:TI P t u z size bytes)(hu:vT u=true)(hc:size≤cs.length):
  Yield P H ⟨d,.load t x,ty,pos,af,g⟩ [.tp cs] (.agg ((cs.take size).map .t)):=by
 intro β w X ρ hE ha
 obtain⟨b,off,f,hx,hb,hX,hc',hr⟩:=aCl ha.1
 ·refine⟨.agg ((List.range size).map f).toArray,?_,.agg _ _ (by simp;omega) (fun i c v h1 h2=> ?_)⟩
  ·simp only [execOp,hx,Instr.loadAt,Instr.sureAddr,Sem.run_bind,Sem.run_pure,Result.andThen_ok]
   rw [ht.run_loadVarN w hu (f:=f) (fun j hj=>hc' j (by omega))]
   rfl
  ·have hi:i<size:=by
    have:=(List.getElem?_eq_some_iff.1 h1).1
    simp at this;omega
   rw [List.getElem?_map,List.getElem?_take_of_lt hi] at h1
   simp only [List.getElem?_toArray,List.getElem?_map,List.getElem?_range hi,Option.map_some,Option.some.injEq] at h2
   cases hx2:cs[i]? with
   |none=>rw [hx2] at h1;simp at h1
   |some x2=>rw [hx2] at h1;simp at h1;rw [←h1,←h2];exact .t _ _ (hr i x2 hx2)
theorem U4(x:Operand)(id gen i off:Nat)(ty':TypeId)(sz:Nat)(rows:List (List T))(row:List T)(c:T)(ht:TI P t u z size bytes)(hu:vT u=false)(hH:H id=some (.arr ty' gen sz rows))(hr:rows[i]? =some row)(hc:row[off]? =some c):
  Yield P H ⟨d,.load t x,ty,pos,af,g⟩ [.eref id gen sz i off] (.t c):=by
 intro β w X ρ hE ha
 obtain⟨q,hq⟩:=kX (hE id _ hH)
 obtain⟨b,hb0,hx⟩:=lL ha.1 hq
 subst hb0
 have hb:=hq
 rcases(hE id _ hH).2 with ⟨h1,h2⟩|⟨b',us,h1,h2,h3,h4,h5⟩
 ·rw [h2] at hr;simp at hr
 ·rw [hb] at h1;cases h1
  have hi:i<rows.length:=(List.getElem?_eq_some_iff.1 hr).1
  have ho:off<sz:=by
   have:=(List.getElem?_eq_some_iff.1 hc).1
   rw [h4 row (List.mem_of_getElem? hr)] at this;exact this
  have hlt:i*sz+off<us.size:=by
   have:(i+1)*sz≤rows.length*sz:=Nat.mul_le_mul_right _ hi
   rw [Nat.add_mul] at this;omega
  have hcell:w.cell? ⟨b,i*sz+off,none⟩=some us[i*sz+off]:=by simp [World.cell?,h2,hlt]
  refine⟨us[i*sz+off],?_,.t _ _ (h5 i off row c _ hr hc (by simp [hlt]))⟩
  simp [execOp,hx,Instr.loadAt,Instr.sureAddr,ht.run_loadVar1 w hu hcell]
theorem aAq(x:Operand)(id off k foff:Nat)(fs:Array Field)(fld:Field)(u':TypeDesc)(z':Value)(sz' by':Nat)(hs:P.underlying t=some (.struct fs))(hf:fs[k]? =some fld)(ho:fld.offset=foff)(htf:TI P fld.type u' z' sz' by')(hsz:(sz'==0)=false):
  Yield P H ⟨d,.fieldAddr t x k,ty,pos,af,g⟩ [.ref id off] (.ref id (off+foff)):=by
 intro β w X ρ hE ha
 obtain⟨b,hb,hx⟩:=qJ ha.1
 have hsz':sz'≠0:=by simpa using hsz
 refine⟨.pointer (some ⟨b,off+foff,none⟩),?_,.ref _ _ _ hb⟩
 simp [execOp,hx,Instr.fieldAt,run_underlying hs,hf,Instr.sureAddr,fieldPlace,htf.run_sizeOf,hsz',d9,ho]
theorem aBR(x:Operand)(cs:List T)(k foff:Nat)(fs:Array Field)(fld:Field)(u':TypeDesc)(z':Value)(sz' by':Nat)(hs:P.underlying t=some (.struct fs))(hf:fs[k]? =some fld)(ho:fld.offset=foff)(htf:TI P fld.type u' z' sz' by')(hsz:(sz'==0)=false):
  Yield P H ⟨d,.fieldAddr t x k,ty,pos,af,g⟩ [.tp cs] (.tp (cs.drop foff)):=by
 intro β w X ρ hE ha
 have hsz':sz'≠0:=by simpa using hsz
 obtain⟨b,off,f,hx,hb,hX,hc',hr⟩:=aCl ha.1
 ·refine⟨.pointer (some ⟨b,off+foff,none⟩),?_,.tp _ b (off+foff) (fun j=>f (foff+j)) hb hX (fun j hj=> ?_) (fun j c h=> ?_)⟩
  ·simp [execOp,hx,Instr.fieldAt,run_underlying hs,hf,Instr.sureAddr,fieldPlace,htf.run_sizeOf,hsz',d9,ho]
  ·rw [Nat.add_assoc];exact hc' (foff+j) (by simp at hj;omega)
  ·exact hr (foff+j) c (by simpa using h)
theorem U6(x:Operand)(id gen sz i off k foff:Nat)(fs:Array Field)(fld:Field)(u':TypeDesc)(z':Value)(sz' by':Nat)(hs:P.underlying t=some (.struct fs))(hf:fs[k]? =some fld)(ho:fld.offset=foff)(htf:TI P fld.type u' z' sz' by')(hsz:(sz'==0)=false)
  (ty':TypeId) (rows:List (List T)) (hH:H id=some (.arr ty' gen sz rows)):Yield P H ⟨d,.fieldAddr t x k,ty,pos,af,g⟩ [.eref id gen sz i off] (.eref id gen sz i (off+foff)):=by
 intro β w X ρ hE ha
 obtain⟨q,hq⟩:=kX (hE id _ hH)
 obtain⟨b,hb0,hx⟩:=lL ha.1 hq
 subst hb0
 have hb:=hq
 have hsz':sz'≠0:=by simpa using hsz
 refine⟨.pointer (some ⟨b,i*sz+(off+foff),none⟩),?_,.eref _ _ _ _ _ _ (hE id _ hH).1 hb⟩
 simp [execOp,hx,Instr.fieldAt,run_underlying hs,hf,Instr.sureAddr,fieldPlace,htf.run_sizeOf,hsz',d9,ho,Nat.add_assoc]
theorem aBQ(x y:Operand)(e:TypeId)(rows:List (List T))(row:List T)(n:Nat)(ht:P.underlying t=some (.slice e))(he:TI P e u z size bytes)(hr:rows[n]? =some row)(hl:row.length=size):
  Yield P H ⟨d,.indexAddr t x y,ty,pos,af,g⟩ [.t (.sl rows),.t (.int .i64 (n:Nat))] (.tp row):=by
 intro β w X ρ hE ha
 have hn:=aY ha.2.1
 have hi:n<rows.length:=(List.getElem?_eq_some_iff.1 hr).1
 cases ha.1 with
 |t _ _ h=>
  generalize hx:ρ x=v at h
  cases h with
  |sl0 a cap=>simp at hr
  |sl _ b off size' cap f hb hX hcap hsz hc hrr=>
   have hs:size'=size:=by rw [←hl];exact(hsz row (List.mem_of_getElem? hr)).symm
   subst hs
   refine⟨.pointer (some ⟨b,off+n*size',none⟩),?_,.tp _ b (off+n*size') (fun j=>f n j) hb hX (fun j hj=>hc n j hi (by omega)) (fun j c h=>hrr n j row c hr h)⟩
   simp [execOp,hx,hn,Instr.indexAt,asIntOf,run_underlying ht,he.run_sizeOf,d9]
   intro h;omega
theorem dF{β:Map}{w:World}{X:Nat→Prop}{id gen size off len:Nat}{u:Value}(h:RV β w X (.msl id gen size off len) u){q:Option Nat}(hq:β id=some (q,gen)):
  (∃cap b n ty,u= .slice (some ⟨b,off*size,none⟩) len cap∧q=some b∧b<w.heap.size∧w.shape? b=some (ty,n)∧(off+cap)*size=n∧len≤cap∧cap≤maxLen)∨
  (q=none∧off=0∧len=0∧u= .slice none 0 0):=by
 cases h with
 |msl _ _ _ _ _ cap b n ty hg hb hw hs hn hl hm=>rw [hb] at hq;cases hq;exact .inl ⟨cap,b,n,ty,rfl,rfl,hw,hs,hn,hl,hm⟩
 |msl0 _ _ _ hg hb=>rw [hb] at hq;cases hq;exact .inr ⟨rfl,rfl,rfl,rfl⟩
 |mslOld _ _ _ _ _ _ q' g ho hb hg=>rw [hb] at hq;cases hq;omega
theorem aAo(x y:Operand)(e:TypeId)(id gen off len n:Nat)(ty2:TypeId)(rows:List (List T))(hH:H id=some (.arr ty2 gen size rows))(ht:P.underlying t=some (.slice e))(he:TI P e u z size bytes)(hi:n<len):
  Yield P H ⟨d,.indexAddr t x y,ty,pos,af,g⟩ [.msl id gen size off len,.t (.int .i64 (n:Nat))] (.eref id gen size (off+n) 0):=by
 intro β w X ρ hE ha
 have hn:=aY ha.2.1
 generalize hx:ρ x=v at ha
 have ha1:=ha.1
 simp only [hx] at ha1
 obtain⟨q,hq⟩:=kX (hE id _ hH)
 rcases dF ha1 hq with ⟨cap,b,m,ty',rfl,hb0,hw,hs,hn',hl,hm⟩|⟨_,_,h0,_⟩
 ·subst hb0
  refine⟨.pointer (some ⟨b,(off+n)*size+0,none⟩),?_,.eref _ _ _ _ _ b (hE id _ hH).1 hq⟩
  simp [execOp,hx,hn,Instr.indexAt,asIntOf,run_underlying ht,he.run_sizeOf,d9,Nat.add_mul]
  intro h;omega
 ·omega
end yields
end Go.Lift
