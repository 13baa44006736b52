/- Literals of structs and slices, make, append; giving an owned block up. -/
import Derived.Test.YtlbojjldejlgaaaGreatTLiftFG
namespace Go.Lift
open Go
def Pts(β:Map)(w:World)(X:Nat→Prop)(cs:List V)(us:List Value):Prop:=us.length=cs.length∧ ∀(i:Nat) c u,cs[i]? =some c→us[i]? =some u→RV β w X c u
theorem Pts.splice{β:Map}{w:World}{X:Nat→Prop}{cs vs:List V}{us ws:List Value}(h:Pts β w X cs us)(k:Pts β w X vs ws)(off:Nat)(hl:off+vs.length≤cs.length):
  Pts β w X (splice cs off vs) (us.take off++ws++us.drop (off+ws.length)):=by refine⟨?_,J1 cs vs off hl us ws h.1 k.1 h.2 k.2⟩;have h1:=h.1;have k1:=k.1;simp [Lift.splice];omega
theorem aCp: ∀(vs:List Value) (k off:Nat) (cells:Array Value),off+k+vs.length≤cells.size→
  (vs.zipIdx k).foldl (fun cs (p:Value×Nat)=>cs.setIfInBounds (off+p.2) p.1) cells=(cells.toList.take (off+k)++vs++cells.toList.drop (off+k+vs.length)).toArray
 | [],k,off,cells,_=>by simp
 |v::vs,k,off,cells,h=>by simp only [List.zipIdx_cons,List.foldl_cons];simp only [List.length_cons] at h;rw [aCp vs (k+1) off _ (by simp;omega)];have e:=list_seg_step cells.toList (off+k) v vs (by simp;omega);simp only [Array.toList_setIfInBounds,List.length_cons];congr 1
def nN(place:Nat→Option (Nat×Nat))(cs:List V):List (Nat×V)→Option (List V)
 | []=>some cs
 |(i,v)::rest=>match place i with
  |none=>none
  |some (off,size)=>bif v.val&&Nat.beq v.cs.length size&&Nat.ble (off+size) cs.length then nN place (splice cs off v.cs) rest else none
theorem pP{β:Map}{w:World}{X:Nat→Prop}(place:Nat→Option (Nat×Nat)): ∀(is:List Nat) (vals:List V) (ws:List Value) (cs:List V) (us:Array Value) (cs':List V),Pts β w X cs us.toList→RVs β w X vals ws→is.length=vals.length→
  nN place cs (is.zip vals)=some cs'→ ∃us',Instr.fill place us (is.zip ws)=some us'∧Pts β w X cs' us'.toList
 | [],[],[],cs,us,cs',h,_,_,hf=>by simp [nN] at hf;subst hf;exact⟨us,rfl,h⟩
 |i::is,v::vals,x::ws,cs,us,cs',h,hr,hl,hf=>by
  simp only [List.zip_cons_cons,nN] at hf;cases hp:place i with
  |none=>rw [hp] at hf;cases hf
  |some q=>
   obtain⟨off,size⟩:=q;rw [hp] at hf;simp only [] at hf;cases hb:(v.val&&Nat.beq v.cs.length size&&Nat.ble (off+size) cs.length) with
   |false=>rw [hb] at hf;cases hf
   |true=>
    rw [hb,cond_true] at hf;simp only [Bool.and_eq_true] at hb;obtain⟨⟨b1,b2⟩,b3⟩:=hb;have b2:=fV b2;have b3:=rZ b3;obtain⟨c1,c2⟩:=hr.1.cells b1;have hus:us.size=cs.length:=by simpa using h.1
    have hpt:Pts β w X v.cs x.cells.toList:=⟨by simpa using c1,fun i c u h1 h2=>c2 i c u h1 (by simpa using h2)⟩
    have hstep:=h.splice hpt off (by omega);have hfold:x.cells.zipIdx.foldl (fun cs (p:Value×Nat)=>cs.setIfInBounds (off+p.2) p.1) us=(us.toList.take off++x.cells.toList++us.toList.drop (off+x.cells.toList.length)).toArray:=by
     rw [←Array.foldl_toList,Array.toList_zipIdx]
     have:=aCp x.cells.toList 0 off us (by simp [c1];omega);simpa using this
    obtain⟨us',h1,h2⟩:=pP place is vals ws (splice cs off v.cs) (us.toList.take off++x.cells.toList++us.toList.drop (off+x.cells.toList.length)).toArray cs' (by simpa using hstep) hr.2 (by simpa using hl) hf;refine⟨us',?_,h2⟩;simp only [List.zip_cons_cons,Instr.fill,hp];rw [if_neg (by simp [c1];omega),hfold];exact h1
 | [],_::_,_,_,_,_,_,_,hl,_=>by simp at hl
 |_::_,[],_,_,_,_,_,_,hl,_=>by simp at hl
 | [],[],_::_,_,_,_,_,hr,_,_=>hr.elim
 |_::_,_::_,[],_,_,_,_,hr,_,_=>hr.elim
theorem mZ(ρ:Operand→Value): ∀ps:List (Nat×Operand),ps.map (fun p=>(p.1,ρ p.2))=(ps.map (·.1)).zip ((ps.map (·.2)).map ρ)
 | []=>rfl
 |p::ps=>by simp only [List.map_cons,List.zip_cons_cons,mZ ρ ps]
def aBw(P:Program)(H:Nat→Option E)(o:Oper)(vals:List V)(v:V):Prop:=
 ∀(β:Map) (w:World) (X:Nat→Prop) (ρ:Operand→Value),(∀id e,H id=some e→RE β w X id e)→(∀b,X b→b<w.heap.size)→
  RVs β w X vals (o.op.operands.toList.map ρ)→ ∃u w',(execOp ρ o).run P w= .ok (.value u) w'∧Ext (fun _=>False) w w'∧RV β w' X v u
theorem Yield.g{P:Program}{H:Nat→Option E}{o:Oper}{vals:List V}{v:V}(h:Yield P H o vals v):aBw P H o vals v:=
 fun β w X ρ hE _ ha=>let ⟨u,h1,h2⟩:=h β w X ρ hE ha;⟨u,w,h1,Ext.refl _ _,h2⟩
theorem Rel.ownLt{K:Ctx}{β:Map}{s:S}{a:Act}{w:World}(hr:Rel K β s a w): ∀b,own K β s.H b→b<w.heap.size:=by
 rintro b (hx|⟨id,_,hb⟩)
 ·exact vAN (hr.xold b hx).1 hr.ext.size
 exact(hr.fresh id b hb).2
theorem o6{K:Ctx}{o:Oper}{s:S}{vals:List V}{v:V}(hd: ∀i,o.dst=some i→Nat.blt i K.nt=true)(hv:VsLe (o.op.operands.toList.map s.get) vals)(h:aBw K.P s.H o vals v):
  OpJ K o s (s.put o.dst v):=by
 intro β a w next Q hr hk
 obtain⟨u,w',hrun,he,hu⟩:=h β w (own K β s.H) a.eval (fun id e he=>(hr.heap id e he).2) hr.ownLt ((hr.gets _).le hv);unfold Oper.wp;rw [hrun];exact hk β _ w' ((hr.grow he).put o.dst hd hu)
section ops
variable {P:Program} {H:Nat→Option E} {d:Option Tmp} {ty:TypeId} {pos:String} {af:Array Edge} {g:Option (Nat×Bool)}
variable {t:TypeId} {u:TypeDesc} {z:Value} {size bytes:Nat}
theorem xD(β:Map)(w:World)(X:Nat→Prop)(us:List Value)(n:Nat)(h:us.length=n):Pts β w X (List.replicate n .junk) us:=
 ⟨by simp [h],fun i c u hc _=>by
  rw [vBg] at hc;split at hc
  ·cases hc;exact .junk _
  cases hc⟩
theorem aJb(ps:Array (Nat×Operand))(fs:Array Field)(places:Array (Nat×Nat))(vals cs':List V)(ht:TI P t (.struct fs) z size bytes)
  (hp: ∀w,(fs.mapM (m:=Sem) fun f:Field=>do pure (f.offset,←sizeOf f.type)).run P w= .ok places w) (hz:(cP z).val=true) (hlen:Nat.beq ps.toList.length vals.length=true)
  (hf:nN (places[·]?) (cP z).cs ((ps.toList.map (·.1)).zip vals)=some cs'):Yield P H ⟨d,.build t ps,ty,pos,af,g⟩ vals (.agg cs'):=by
 intro β w X ρ _ ha;have ha':RVs β w X vals ((ps.toList.map (·.2)).map ρ):=by simpa [Op.operands] using ha
 obtain⟨c1,c2⟩:=(nH β w X z).cells hz;obtain⟨us',h1,h2⟩:=pP (β:=β) (w:=w) (X:=X) (places[·]?) (ps.toList.map (·.1)) vals _ (cP z).cs z.cells cs' ⟨by simpa using c1,fun i c u h1 h2=>c2 i c u h1 (by simpa using h2)⟩ ha' (by simpa using fV hlen) hf;refine⟨.agg us',?_,.agg _ _ (by simpa using h2.1) fun i c u hc hu=>h2.2 i c u hc (by simpa using hu)⟩;have hz2:=mZ ρ ps.toList;have hp':=hp w;simp only [execOp,Instr.build,Sem.run_bind,ht.run_zero,Result.andThen_ok,run_underlying ht.1];rw [hp'];simp only [Result.andThen_ok,Array.toList_map];have e:(ps.toList.map fun x=>match x with|(i,x)=>(i,ρ x))=(ps.toList.map (·.1)).zip ((ps.toList.map (·.2)).map ρ):=by rw [←hz2]
 rw [e,h1];rfl
theorem aBM(x:Operand)(k:Nat)(fs:Array Field)(fld:Field)(vs:List V)(v:V){u':TypeDesc}{z':Value}{size' bytes':Nat}(ht:TI P t (.struct fs) z size bytes)(hf:fs[k]? =some fld)(htf:TI P fld.type u' z' size' bytes')
  (hv:(wO u'=true∧Nat.ble (fld.offset+size') vs.length=true∧v= .agg ((vs.drop fld.offset).take size'))∨(wO u'=false∧vs[fld.offset]? =some v)):Yield P H ⟨d,.field t x k,ty,pos,af,g⟩ [.agg vs] v:=by
 intro β w X ρ _ ha;have h1:RV β w X (.agg vs) (ρ x):=ha.1;generalize hx:ρ x=y at h1;cases h1 with
 |agg _ us hl hr=>
  rcases hv with ⟨ha,hb,rfl⟩|⟨ha,hv⟩
  ·have hle:=rZ hb;refine⟨.agg (us.extract fld.offset (fld.offset+size')),?_,.agg _ _ (by simp;omega) fun i c u hc hu=>?_⟩
   ·simp [execOp,hx,Instr.field,run_underlying ht.1,hf,asAgg,part,htf.run_isAgg,htf.run_sizeOf,ha]
   have hi:i<size':=by
    have:=(cC.1 hc).1;simp at this;omega
   rw [vBs hi,D9] at hc;refine hr (fld.offset+i) c u hc ?_;rw [Array.getElem?_extract] at hu;split at hu
   ·exact hu
   cases hu
  have hk:fld.offset<us.size:=by rw [hl];exact(cC.1 hv).1
  refine⟨us[fld.offset],?_,hr _ v us[fld.offset] hv (by simp [hk])⟩;simp [execOp,hx,Instr.field,run_underlying ht.1,hf,asAgg,part,htf.run_isAgg,ha,hk]
theorem uW(n:Nat)(ps:Array (Nat×Operand))(e:TypeId)(vals:List V)(rows:List (List T))(hu:P.underlying t=some (.slice e))(he:TI P e u z size bytes)(hlen:Nat.beq ps.toList.length vals.length=true)
  (hn:Nat.beq rows.length n=true) (hsz: ∀row,row∈rows→row.length=size) (hbig:Nat.ble (n*size) 16777216=true)
  (hf:nN (fun i=>some (i*size,size)) (List.replicate (n*size) .junk) ((ps.toList.map (·.1)).zip vals)=some (rows.flatten.map .t)):
  aBw P H ⟨d,.buildSlice t n ps,ty,pos,af,g⟩ vals (.t (.sl rows)):=by
 intro β w X ρ _ hX ha;have hn':=fV hn;have ha':RVs β w X vals ((ps.toList.map (·.2)).map ρ):=by simpa [Op.operands] using ha
 have hz2:=mZ ρ ps.toList;obtain⟨us',h1,h2⟩:=pP (β:=β) (w:=w) (X:=X) (fun i=>some (i*size,size)) (ps.toList.map (·.1)) vals _ (List.replicate (n*size) .junk)
  ((Array.range (n*size)).map ((if n*size=0 then #[] else z.cells)[· %(if n*size=0 then #[] else z.cells).size]!)) _ (xD _ _ _ _ _ (by simp)) ha' (by simpa using fV hlen) hf
 have hrun:(execOp ρ ⟨d,.buildSlice t n ps,ty,pos,af,g⟩).run P w= .ok (.value (.slice (some ⟨w.heap.size,0,none⟩) n n)) (w.alloc (.cells us' e)):=by
  have e2:(ps.toList.map fun x=>match x with|(i,x)=>(i,ρ x))=(ps.toList.map (·.1)).zip ((ps.toList.map (·.2)).map ρ):=by rw [←hz2]
  have hb: ¬(n*size>2^24):=by have:=rZ hbig;omega
  simp only [execOp,Instr.buildSlice,Sem.run_bind,run_underlying hu,Result.andThen_ok,he.run_sizeOf,hb,if_false,Array.toList_map];by_cases h0:n*size=0
  ·simp only [h0,if_true] at h1;simp only [h0,if_true,Sem.run_pure,Sem.run_bind,Result.andThen_ok];rw [e2,h1];rfl
  simp only [h0,if_false] at h1;simp only [h0,if_false,Sem.run_pure,Sem.run_bind,he.run_zero,Result.andThen_ok];rw [e2,h1];rfl
 refine⟨_,_,hrun,Ext.alloc _ _ _,.t _ _ ?_⟩;subst hn';have hsize:us'.size=rows.flatten.length:=by
  have h:=h2.1;rw [I2,vBe] at h;exact h
 have hfl:rows.flatten.length=rows.length*size:=by
  rw [List.length_flatten]
  have:rows.map List.length=List.replicate rows.length size:=List.eq_replicate_iff.2 ⟨by simp,fun b hb=>by obtain⟨r,hr,rfl⟩:=vAT.1 hb;exact hsz r hr⟩;rw [this];simp
 have hget: ∀(rows:List (List T)),(∀row,row∈rows→row.length=size)→ ∀(i j:Nat) (row:List T) (x:T),rows[i]? =some row→row[j]? =some x→rows.flatten[i*size+j]? =some x:=by
  intro rows;induction rows with
  |nil=>intro _ i j row x h _;simp at h
  |cons r rows ih=>
   intro hs i j row x h1 h2;have hr:=hs r (by simp);rw [List.flatten_cons];cases i with
   |zero=>
    simp at h1;subst h1
    have:=(cC.1 h2).1;rw [F7,l4,I0 this];exact h2
   |succ i=>
    simp at h1;rw [I1 (by rw [hr,jJ];omega)];rw [show(i+1)*size+j-r.length=i*size+j by rw [hr,jJ];omega];exact ih (fun row h=>hs row (by simp [h])) i j row x h1 h2
 have hf2: ∀i j,i<rows.length→j<size→i*size+j<us'.size:=by
  intro i j hi hj;rw [hsize,hfl]
  have:(i+1)*size≤rows.length*size:=jL _ hi;rw [jJ] at this;omega
 refine .sl rows w.heap.size 0 size rows.length (fun i j=>us'.getD (i*size+j) undef) (by simp) (fun h=>by have:=hX _ h;omega) (kF _) hsz (fun i j hi hj=>?_) fun i j row x h3 h4=>?_
 ·rw [l4,World.cell?_alloc_new]
  have:=hf2 i j hi hj;simp [this]
 have h5:=hget rows hsz i j row x h3 h4;have hi:=(cC.1 h3).1;have hj:j<size:=by rw [←hsz row (dD h3)];exact(cC.1 h4).1
 have h6:=hf2 i j hi hj;have h7:=h2.2 (i*size+j) (.t x) us'[i*size+j] (by rw [zG,h5];rfl) (by simp [h6]);cases h7 with
 |t _ _ h=>
  have:us'.getD (i*size+j) undef=us'[i*size+j]:=by simp [h6]
  rw [this];exact h.mono (Ext.alloc X _ _) fun _ _ h=>h
end ops
theorem iU{i j n size:Nat}(hi:i<n)(hj:j<size):i*size+j<n*size:=by have:(i+1)*size≤n*size:=jL _ hi;rw [jJ] at this;omega
section ops
variable {K:Ctx} {s:S} {d:Option Tmp} {ty:TypeId} {pos:String} {af:Array Edge} {g:Option (Nat×Bool)}
variable {t:TypeId} {u:TypeDesc} {z:Value} {size bytes:Nat}
theorem aHK(k:Nat)(hk:s.u k=false)(l c:Operand)(e:TypeId)(m:Nat)(zrow:List T)(hd: ∀i,d=some i→Nat.blt i K.nt=true)(hu:K.P.underlying t=some (.slice e))(he:TI K.P e u z size bytes)
  (hl:s.get l= .t (.int .i64 (m:Nat))) (hc:s.get c= .t (.int .i64 (m:Nat))) (hz:(cP z).cs=zrow.map .t) (hv:(cP z).val=true) (hs:Nat.beq zrow.length size=true) (hpos:Nat.blt 0 size=true) (hm:m*bytes≤281474976710656) (hm2:m≤9223372036854775807):
  OpJ K ⟨d,.makeSlice t l c,ty,pos,af,g⟩ s ((s.new k (.arr e 1 size (List.replicate m zrow))).put d (.msl k 1 size 0 m)):=by
 intro β a w next Q hr hk'
 have h1:=hr.get l;rw [hl] at h1;have h2:=hr.get c;rw [hc] at h2;have h1:=aW h1;have h2:=aW h2;have hs':=fV hs;have hp:0<size:=by simpa [Nat.blt_eq] using hpos
 obtain⟨c1,c2⟩:=(nH β w (own K β s.H) z).cells hv;have hzs:z.cells.size=size:=by rw [c1,hz];simpa using hs'
 have hrun:(execOp a.eval ⟨d,.makeSlice t l c,ty,pos,af,g⟩).run K.P w= .ok (.value (.slice (some ⟨w.heap.size,0,none⟩) m m)) (w.alloc (.cells ((Array.range (m*size)).map (z.cells[· %z.cells.size]!)) e)):=by
  obtain⟨_,i,hi1,hi2,hi3,hi4⟩:=he;have hb:(i.bytes:Int)*(m:Int)≤281474976710656:=by
   rw [hi4,Int.mul_comm,←Int.natCast_mul];omega
  have:=run_make (P:=K.P) w t e i z hu hi1 hi2 .i64 .i64 m m (by omega) (X3 _) hb (by omega);simp only [Int.toNat_natCast,hi3,madeCells] at this;simp only [execOp,h1,h2,Sem.run_bind,this,Result.andThen_ok];rfl
 unfold Oper.wp;rw [hrun];have hnew:=hr.new k 1 hk ((Array.range (m*size)).map (z.cells[· %z.cells.size]!)) e (.arr e 1 size (List.replicate m zrow)) fun β' X' w' hw hn hrv=>⟨kF _,Or.inr ⟨w.heap.size,_,hn,by subst hw;exact bG _ _,?_,?_,?_⟩⟩
 ·have hsz:(w.alloc (.cells ((Array.range (m*size)).map (z.cells[· %z.cells.size]!)) e)).heap.size=w.heap.size+1:=World.size_alloc ..;have hsh:(w.alloc (.cells ((Array.range (m*size)).map (z.cells[· %z.cells.size]!)) e)).shape? w.heap.size=some (e,m*size):=by unfold World.shape?;rw [bG];simp
  have hv:RV (β.put k (some (some w.heap.size,1))) (w.alloc (.cells ((Array.range (m*size)).map (z.cells[· %z.cells.size]!)) e)) (own K (β.put k (some (some w.heap.size,1))) (s.new k (.arr e 1 size (List.replicate m zrow))).H) (.msl k 1 size 0 m)
    (.slice (some ⟨w.heap.size,0*size,none⟩) m m):= .msl k 1 size 0 m m w.heap.size (m*size) e (kF _) (aI _ _ _) (hsz▸vAV _) hsh (by rw [l4]) (kF _) (by unfold maxLen;omega)
  rw [F7] at hv;exact hk' _ _ _ (hnew.put d hd hv)
 ·simp
 ·intro row hrow;rw [vBa] at hrow;rw [hrow.2];exact hs'
 intro i j row x y hi hj hy;rw [vBg] at hi;split at hi
 ·rename_i him;cases hi;have hjl:j<size:=by rw [←hs'];exact(cC.1 hj).1
  have hidx:=iU him hjl;simp only [Array.getElem?_map,Array.getElem?_range,hidx,if_true,Option.map_some,Option.some.injEq] at hy;have hmod:(i*size+j)%z.cells.size=j:=by rw [hzs,Nat.add_comm,Nat.add_mul_mod_self_right,Nat.mod_eq_of_lt hjl]
  rw [hmod] at hy;have hzj:z.cells[j]? =some y:=by rw [←hy];rw [getElem!_pos _ _ (by omega)];simp [hzs,hjl]
  have h3:=c2 j (.t x) y (by rw [hz,zG,hj];rfl) hzj;have h4:=hrv _ _ h3;cases h4 with|t _ _ h=>exact h
 cases hi
def Src(w:World)(X:Nat→Prop)(size:Nat)(rows:List (List T))(u:Value):Prop:=
 (u= .slice none 0 0∧rows=[])∨ ∃(b off cap:Nat) (us:List Value),u= .slice (some ⟨b,off,none⟩) rows.length cap∧us.length=rows.length*size∧
  (∀(j:Nat) x,us[j]? =some x→w.cell? ⟨b,off+j,none⟩=some x)∧(∀x,x∈us→x.oneCell'=true)∧
  ∀(i j:Nat) (row:List T) (x:T) (y:Value),rows[i]? =some row→row[j]? =some x→us[i*size+j]? =some y→RT w X x y
theorem RT.oneCell{w:World}{X:Nat→Prop}{x:T}{u:Value}(h:RT w X x u):u.oneCell'=true:=by cases h<;>rfl
theorem B1{β:Map}{w:World}{X:Nat→Prop}{size:Nat}{rows:List (List T)}{u:Value}(h:RV β w X (.t (.sl rows)) u)(hsz: ∀row,row∈rows→row.length=size)(hp:0<size):
  Src w X size rows u∨(rows=[]∧ ∃a cap,u= .slice a 0 cap):=by
 cases h with
 |t _ _ h=>cases h with
  |sl0 a cap=>exact .inr ⟨rfl,a,cap,rfl⟩
  |sl _ b off size' cap f hb hX hcap hsz' hc hr=>
   by_cases hne:rows=[]
   ·subst hne;exact .inr ⟨rfl,_,_,rfl⟩
   obtain⟨r0,hr0⟩:=vBr rows hne;have hss:size'=size:=by rw [←hsz' r0 hr0,hsz r0 hr0]
   subst hss;refine .inl (.inr ⟨b,off,cap,(List.range (rows.length*size')).map fun m=>f (m / size') (m%size'),rfl,by simp,fun j x hj=>?_,fun x hx=>?_,fun i j row x y h1 h2 h3=>?_⟩)
   ·rw [zG] at hj;cases hj2:(List.range (rows.length*size'))[j]? with
    |none=>rw [hj2] at hj;cases hj
    |some j'=>
     rw [hj2] at hj;have hlt:j<rows.length*size':=by simpa using (cC.1 hj2).1
     have hjj:j'=j:=by rw [List.getElem?_range hlt] at hj2;cases hj2;rfl
     subst hjj;simp at hj;rw [←hj]
     have:=hc (j' / size') (j'%size') (by rw [vBl hp];exact hlt) (Nat.mod_lt _ hp);rw [vBq,Nat.mul_comm,Nat.div_add_mod] at this;exact this
   ·obtain⟨m,hm,rfl⟩:=vAT.1 hx;have hm:=List.mem_range.1 hm;have h1:m / size'<rows.length:=by rw [vBl hp];exact hm
    have h2:=Nat.mod_lt m hp;have h3:=hsz' rows[m / size'] (vBo h1);exact(hr (m / size') (m%size') rows[m / size'] (rows[m / size'])[m%size'] (dH h1) (dH (by omega))).oneCell
   have hj:j<size':=by rw [←hsz' row (dD h1)];exact(cC.1 h2).1
   have hi:=(cC.1 h1).1;rw [zG,List.getElem?_range (iU hi hj)] at h3;simp at h3;rw [←h3];have e1:(i*size'+j) / size'=i:=by rw [Nat.mul_comm,Nat.mul_add_div hp,Nat.div_eq_of_lt hj,vBp]
   rw [e1,Nat.mod_eq_of_lt hj];exact hr i j row x h1 h2
end ops
end Go.Lift
