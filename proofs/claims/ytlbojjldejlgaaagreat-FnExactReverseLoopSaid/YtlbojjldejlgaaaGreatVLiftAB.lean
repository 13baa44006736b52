/- Tools. -/
import Derived.Tactics
import Derived.Deep.Quiet
import Derived.Laws.World
import Derived.Laws.Sem
import Derived.WalkKit
namespace Go.Lift
open Go
abbrev bs:=@decide_eq_false
abbrev bN:=@decide_eq_true
abbrev bn.{u}:=@if_pos.{u}
abbrev br.{u}:=@if_neg.{u}
abbrev a7.{u}:=@absurd.{u}
abbrev xT:=@of_decide_eq_true
section
variable {p:Prop}{X X':Nat->Prop}{a b c w w':World}{j i k n sz:Nat}{u v:Value}{m:Option Nat}
theorem O(h:p:=by omega):p:=h
theorem Z(h:p:=by dsimp only;omega):p:=h
theorem J(h:p:=by kernel_rfl):p:=h
theorem aV(h:p:=by simp):p:=h
theorem b1(h:p:=by simp;omega):p:=h
abbrev bh.{u}:=@List.getElem?_eq_getElem.{u}
abbrev bt.{u}:=@List.getElem?_eq_some_iff.{u}
abbrev bA.{u}:=@List.mem_of_getElem?.{u}
abbrev ca:=@Nat.eq_of_beq_eq_true
abbrev dq:=@Nat.mul_le_mul_right
abbrev dw.{u}:=@List.length_append.{u}
abbrev eb:=@Nat.le_of_ble_eq_true
abbrev dU.{u}:=@List.mem_cons_of_mem.{u}
abbrev dA.{u}:=@List.take_length.{u}
abbrev fs.{u}:=@List.getD_eq_getElem?_getD.{u}
abbrev dT.{u,v}:=@List.getElem?_map.{u,v}
abbrev cL:=@Nat.le_refl
abbrev ep.{u}:=@List.mem_cons_self.{u}
abbrev dP.{u}:=@List.length_take.{u}
abbrev dL.{u,v}:=@List.length_map.{u,v}
abbrev f'.{u}:=@Array.getElem?_eq_getElem.{u}
abbrev gw.{u}:=@Array.getElem?_eq_some_iff.{u}
abbrev dn:=@Nat.zero_add
abbrev gK.{u}:=@List.getElem?_append_right.{u}
abbrev dz.{u}:=@List.mem_cons.{u}
abbrev eF.{u}:=@List.take_add_one.{u}
abbrev hD.{u}:=@List.getElem?_append_left.{u}
abbrev iW.{u}:=@List.eq_nil_of_length_eq_zero.{u}
abbrev dS:=@Nat.le_trans
abbrev fJ.{u}:=@List.getElem?_take.{u}
abbrev ga.{u}:=@List.getElem?_drop.{u}
abbrev dM:=@Nat.add_mul
abbrev hz.{u}:=@List.mem_iff_getElem?.{u}
abbrev hY.{u}:=@List.getElem?_set_self.{u}
abbrev ft.{u}:=@List.getElem_mem.{u}
abbrev fX:=@Int.toNat_natCast
abbrev hA.{u}:=@List.mem_of_mem_take.{u}
abbrev ff.{u}:=@List.mem_append.{u}
abbrev gv.{u}:=@List.all_eq_true.{u}
abbrev iw.{u}:=@List.getElem?_of_mem.{u}
abbrev ha.{u}:=@List.all_eq_false.{u}
abbrev fe:=@Nat.zero_mul
abbrev iU:=@Nat.lt_of_lt_of_le
abbrev ix.{u}:=@List.append_assoc.{u}
abbrev kl.{u}:=@List.mem_of_mem_drop.{u}
abbrev km.{u}:=@List.getElem?_set_ne.{u}
abbrev nE.{u}:=@Array.getD_eq_getD_getElem?.{u}
abbrev fY.{u,v}:=@List.mem_map.{u,v}
abbrev iV.{u}:=@List.length_drop.{u}
abbrev kS.{u}:=@Array.length_toList.{u}
abbrev nF.{u}:=@List.drop_eq_getElem_cons.{u}
abbrev mi.{u}:=@List.take_of_length_le.{u}
abbrev lv.{u}:=@List.mem_append_left.{u}
abbrev hB:=@Bool.true_and
abbrev fZ:=@Int.le_refl
abbrev mj.{u}:=@Array.getElem?_toList.{u}
abbrev lx.{u,v}:=@List.flatMap_append.{u,v}
abbrev jC.{u,v}:=@List.map_append.{u,v}
abbrev kn.{u}:=@List.append_nil.{u}
abbrev nJ.{u}:=@List.mem_append_right.{u}
abbrev jD:=@Bool.and_assoc
abbrev pe.{u}:=@List.all_eq_not_any_not.{u}
abbrev re.{u}:=@List.mem_or_eq_of_mem_set.{u}
abbrev ly:=@Nat.lt_succ_self
abbrev lz:=@Nat.lt_of_not_le
abbrev pf.{u}:=@List.length_singleton.{u}
abbrev kT:=@Bool.and_false
abbrev lA:=@Nat.not_lt_zero
abbrev rf.{u}:=@List.getElem?_replicate.{u}
abbrev nK.{u}:=@List.pairwise_cons.{u}
abbrev nL.{u}:=@List.drop_length.{u}
abbrev xe.{u}:=@List.mem_zipIdx_iff_getElem?.{u}
abbrev ml:=@Nat.mul_le_mul
abbrev mm:=@Int.mul_nonneg
abbrev rh.{u,v,w}:=@List.length_zipWith.{u,v,w}
abbrev tQ:=@Nat.div_lt_iff_lt_mul
abbrev ri.{u}:=@List.mem_replicate.{u}
abbrev rj.{u}:=@List.mem_singleton.{u}
abbrev Cg.{u}:=@List.findIdx?_eq_some_iff_getElem.{u}
abbrev xf.{u}:=@List.exists_mem_of_ne_nil.{u}
abbrev pg.{u}:=@List.length_set.{u}
abbrev pj:=@List.range_succ
abbrev Ch.{u}:=@Array.eq_empty_of_size_eq_zero.{u}
abbrev nG:=@Nat.add_assoc
abbrev w9.{u,v}:=@Option.bind_eq_some_iff.{u,v}
abbrev tP:=@Int.toNat_of_nonneg
abbrev q9.{u,v}:=@Array.toList_map.{u,v}
abbrev q'.{u}:=@List.any_eq_true.{u}
abbrev ra:=@Bool.and_eq_true
abbrev pd:=@Int.mul_le_mul
abbrev xa.{u}:=@List.drop_eq_nil_of_le.{u}
abbrev xb.{u}:=@List.length_eq_one_iff.{u}
abbrev nH:=@Nat.add_zero
abbrev nI:=@Nat.sub_self
abbrev xc.{u}:=@List.take_append_drop.{u}
abbrev xd.{u}:=@List.set_append_right.{u}
abbrev rb:=@List.mem_range
inductive T where
  |bool (b:Bool)
  |int (k:IntKind) (n:Int)
  |str (s:List UInt8)
  |aa (rows:List (List T))
  |en
  |gW
  |eO
  |jw
  |err
  deriving Inhabited
inductive V where
  |t (x:T)
  |agg (cs:List V)
  |bG (vs:List V)
  |ref (id off:Nat)
  |aP (cells:List T)
  |aN (id gen size off len:Nat)
  |cd (id gen size i off:Nat)
  |fn (f:FuncId) (XM:List V)
  |ct
  deriving Inhabited
structure df where
  ty:TypeId
  size:Nat
  aJ:List (Nat×Nat)
def pW:List (Nat×Nat)->Nat->Option Nat
  | [],_=>none
  |p::l,j=>bif Nat.beq p.1 j then some p.2 else pW l j
def df.dv(d:df)(j:Nat):Option Nat:=pW d.aJ j
def Wz:df:=⟨0,0,[]⟩
def Y(a:List df)(m:Nat):df:=a.getD m Wz
inductive E where
  |cells (cs:List V)
  |arr (ty:TypeId) (gen size:Nat) (rows:List (List T))
  |av (d':List df) (m gen:Nat) (rows:List (List T)) (open_:List (Nat×Nat×V))
structure Map where
  f:Nat->Option (Option Nat×Nat)
  n:Nat->Nat->Prop
instance:CoeFun Map (λ_=>Nat->Option (Option Nat×Nat)):=⟨Map.f⟩
def At(a:Map)(c b:Nat):Prop:=(∃g,a c=some (some b,g))\/a.n c b
def cN(c a:Map):Prop:= ∀id q g,c id=some (q,g)->a id=some (q,g)\/(1<=g/\ ∃e b,a id=some (e,b)/\g<b)
theorem cN.refl(β:Map):cN β β:=λ_ _ _ h=> .inl h
variable {β W β':Map}{t:List df}{e:E}
theorem cN.of(h: ∀id x,β id=some x->W id=some x):cN β W:=λ_ _ _ a=> .inl (h _ _ a)
structure Ext (X:Nat->Prop) (w w':World):Prop where
  os:w'.os=w.os
  tape:w'.tape=w.tape
  output:w'.output=w.output
  size:w.heap.size<=w'.heap.size
  keep: ∀b,b<w.heap.size-> ¬X b->w'.heap[b]? =w.heap[b]?
theorem Ext.refl(X:Nat->Prop)(w:World):Ext X w w:=⟨rfl,rfl,rfl,cL _,λ_ _ _=>rfl⟩
theorem Ext.trans(h:Ext X a b)(k:Ext X b c):Ext X a c:=
  ⟨k.os.trans h.os,k.tape.trans h.tape,k.output.trans h.output,dS h.size k.size,
   λi e l=>(k.keep i (iU e h.size) l).trans (h.keep i e l)⟩
theorem Ext.trans'(h:Ext X a b)(k:Ext (λi=> ¬(i<a.heap.size/\ ¬X i)) b c):Ext X a c:=
  ⟨k.os.trans h.os,k.tape.trans h.tape,k.output.trans h.output,dS h.size k.size,
   λi e l=>(k.keep i (iU e h.size) λm=>m ⟨e,l⟩).trans (h.keep i e l)⟩
theorem Ext.weaken{j:Nat->Prop}(h:Ext X a b)(e: ∀i,i<a.heap.size->X i->j i):Ext j a b:=
  ⟨h.os,h.tape,h.output,h.size,λi c k=>h.keep i c λl=>k (e i c l)⟩
theorem Ext.drew(X:Nat->Prop)(w:World):Ext X w w.drew:=⟨rfl,rfl,rfl,cL _,λ_ _ _=>rfl⟩
theorem th(w:World)(o:Obj)(k:Nat)(h:k<w.heap.size):(w.alloc o).heap[k]? =w.heap[k]? :=by
  show(w.heap.push o)[k]? =_
  grind
theorem ie(w:World)(o:Obj):(w.alloc o).heap[w.heap.size]? =some o:=by show(w.heap.push o)[w.heap.size]? =_;simp
theorem Ext.alloc(X:Nat->Prop)(w:World)(o:Obj):Ext X w (w.alloc o):=
  ⟨rfl,rfl,rfl,aV,λk a _=>th _ _ _ a⟩
theorem oA{b:Nat}(h:a.heap[b]? =w.heap[b]?):a.shape? b=w.shape? b:=by unfold World.shape?;rw[h]
def Shaped(_β:Map)(w a:World):Prop:= ∀b,b<w.heap.size->a.shape? b=w.shape? b
theorem Shaped.refl(β:Map)(w:World):Shaped β w w:=λ_ _=>rfl
theorem lQ(e:Ext (λ_=>False) w w'):Shaped W w w':=λb a=>oA (e.keep b a λh=>h)
theorem LM(w:World)(a:Addr)(u:Value)(k:Nat)(h:k≠a.block):(w.setCell a u).heap[k]? =w.heap[k]? :=by
  simp only[World.setCell,Array.getElem?_modify]
  grind
theorem Ext.setCell(w:World)(a:Addr)(u:Value)(h:X a.block):Ext X w (w.setCell a u):=
  ⟨rfl,rfl,rfl,aV,λk _ b=>LM _ _ _ _ λe=>b (e▸h)⟩
theorem B3{a:Addr}(h:b.heap[a.block]? =w.heap[a.block]?):b.cell? a=w.cell? a:=by unfold World.cell?;rw[h]
inductive b9 (w:World) (X:Nat->Prop):T->Value->Prop where
  |bool (b:Bool):b9 w X (.bool b) (.bool b)
  |int (k:IntKind) (n:Int):b9 w X (.int k n) (.int k n)
  |str (l:List UInt8):b9 w X (.str l) (.string ⟨l.toArray⟩)
  |eH (a:Option Addr) (cap:Nat):b9 w X (.aa []) (.slice a 0 cap)
  |aa (rows:List (List T)) (b off size cap:Nat) (f:Nat->Nat->Value) (aQ:b<w.heap.size) (e8: ¬X b) (AY:rows.length<=cap)
      (jn: ∀row,row∈rows->row.length=size)
      (bl: ∀i j,i<rows.length->j<size->w.cell? ⟨b,off+i*size+j,none⟩=some (f i j))
      (bH: ∀(i j:Nat) (row:List T) (x:T),rows[i]? =some row->row[j]? =some x->b9 w X x (f i j)):
      b9 w X (.aa rows) (.slice (some ⟨b,off,none⟩) rows.length cap)
  |en:b9 w X .en (.slice none 0 0)
  |gW:b9 w X .gW (.pointer none)
  |eO:b9 w X .eO .nilIface
  |jw:b9 w X .jw .nilFunc
  |err (t:TypeId) (v:Value):b9 w X .err (.iface t v)
theorem b9.mono{u:Nat->Prop}{x:T}(h:b9 w X x v)(e:Ext X w w')(A: ∀b,b<w.heap.size->u b->X b):b9 w' u x v:=by
  induction h with
  |bool b=>exact .bool b
  |int k n=>exact .int k n
  |str l=>exact .str l
  |eH a c=>exact .eH a c
  |aa m b r o c f s p q y B _ C=>
    exact .aa m b r o c f (iU s e.size) (λh=>p (A b s h)) q y
      (λi j D F=>by rw[B3 (w:=w) (e.keep b s p)];exact B i j D F) (λi j z x G K=>C i j z x G K)
  |en=>exact .en
  |gW=>exact .gW
  |eO=>exact .eO
  |jw=>exact .jw
  |err t v=>exact .err t v
inductive aS (β:Map) (w:World) (X:Nat->Prop):V->Value->Prop where
  |t (x:T) (v:Value):b9 w X x v->aS β w X (.t x) v
  |agg (cs:List V) (us:Array Value) (ch:us.size=cs.length) (h: ∀(i:Nat) c u,cs[i]? =some c->us[i]? =some u->aS β w X c u):aS β w X (.agg cs) (.agg us)
  |bG (cs:List V) (us:Array Value) (ch:us.size=cs.length) (h: ∀(i:Nat) c u,cs[i]? =some c->us[i]? =some u->aS β w X c u):aS β w X (.bG cs) (.tuple us)
  |ref (id off b:Nat) (aQ:β id=some (some b,0)):aS β w X (.ref id off) (.pointer (some ⟨b,off,none⟩))
  |aP (cells:List T) (b off:Nat) (f:Nat->Value) (aQ:b<w.heap.size) (e8: ¬X b)
      (bl: ∀j,j<cells.length->w.cell? ⟨b,off+j,none⟩=some (f j))
      (bH: ∀(j:Nat) (x:T),cells[j]? =some x->b9 w X x (f j)):aS β w X (.aP cells) (.pointer (some ⟨b,off,none⟩))
  |aN (id gen size off len cap b n:Nat) (ty:TypeId) (bE:1<=gen) (aQ:β id=some (some b,gen)) (hw:b<w.heap.size) (hs:w.shape? b=some (ty,n)) (cn:(off+cap)*size=n) (ch:len<=cap) (hm:cap<=maxLen):
      aS β w X (.aN id gen size off len) (.slice (some ⟨b,off*size,none⟩) len cap)
  |fB (id gen size:Nat) (bE:1<=gen) (aQ:β id=some (none,gen)):aS β w X (.aN id gen size 0 0) (.slice none 0 0)
  |hW (id gen size off len:Nat) (v:Value) (q:Option Nat) (g:Nat) (dG:v.oneCell'=true) (aQ:β id=some (q,g)) (bE:gen<g):aS β w X (.aN id gen size off len) v
  |cd (id gen size i off b:Nat) (bE:1<=gen) (aQ:β id=some (some b,gen)):aS β w X (.cd id gen size i off) (.pointer (some ⟨b,i*size+off,none⟩))
  |iG (id gen size i off:Nat) (v:Value) (q:Option Nat) (g:Nat) (dG:v.oneCell'=true) (aQ:β id=some (q,g)) (bE:gen<g):aS β w X (.cd id gen size i off) v
  |fn (f:FuncId) (cs:List V) (us:Array Value) (ch:us.size=cs.length) (h: ∀(i:Nat) c u,cs[i]? =some c->us[i]? =some u->aS β w X c u):
      aS β w X (.fn f cs) (.func (.func f) #[] us)
  |ct (v:Value):aS β w X .ct v
theorem aS.mono{x:V}(h:aS β w X x v)(e:Ext X w w')(C: ∀b,b<w.heap.size->X' b->X b)
    (m:cN β β') (D:Shaped β w w'):aS β' w' X' x v:=by
  induction h with
  |t x v h=>exact .t x v (h.mono e C)
  |agg cs y s _ z=>exact .agg cs y s z
  |bG cs y s _ z=>exact .bG cs y s z
  |ref id c b k=>
    rcases m _ _ _ k with h|⟨h,_⟩
    · exact .ref id c b h
    · omega
  |aP cells b c f k A K L=>
    exact .aP cells b c f (iU k e.size) (λh=>A (C b k h)) (λj Q=>by rw[B3 (w:=w) (e.keep b k A)];exact K j Q)
      (λj x h=>(L j x h).mono e C)
  |aN id gen a c len F b n ty o k G R W s u=>
    rcases m _ _ _ k with h|⟨_,p,r,h,l⟩
    · exact .aN id gen a c len F b n ty o h (iU G e.size) (by rw[D b G];exact R) W s u
    · exact .hW id gen a c len _ p r rfl h l
  |fB id gen a o k=>
    rcases m _ _ _ k with h|⟨_,p,r,h,l⟩
    · exact .fB id gen a o h
    · exact .hW id gen a 0 0 _ p r rfl h l
  |hW id gen a c len v q g B k o=>
    rcases m _ _ _ k with h|⟨_,p,r,h,l⟩
    · exact .hW id gen a c len v q g B h o
    · exact .hW id gen a c len v p r B h O
  |cd id gen a i c b o k=>
    rcases m _ _ _ k with h|⟨_,p,r,h,l⟩
    · exact .cd id gen a i c b o h
    · exact .iG id gen a i c _ p r rfl h l
  |iG id gen a i c v q g B k o=>
    rcases m _ _ _ k with h|⟨_,p,r,h,l⟩
    · exact .iG id gen a i c v q g B h o
    · exact .iG id gen a i c v p r B h O
  |fn f cs y s _ z=>exact .fn f cs y s z
  |ct v=>exact .ct v
inductive eJ (d':List df) (w:World) (X:Nat->Prop):Option Nat->T->Value->(Nat->Prop)->Prop where
  |ee (x:T) (v:Value) (N:Nat->Prop) (h:b9 w X x v) (gT: ∀c,¬N c):eJ d' w X none x v N
  |nil (m:Nat) (N:Nat->Prop) (gT: ∀c,¬N c):eJ d' w X (some m) (.aa []) (.slice none 0 0) N
  |own (m:Nat) (rows:List (List T)) (b cap:Nat) (us:Array Value) (B:Nat->Nat->Nat->Prop) (N:Nat->Prop)
      (hw:w.heap[b]? =some (.cells us (Y d' m).ty (0,0))) (hs:us.size=cap*(Y d' m).size) (hm:cap<=maxLen) (ch:rows.length<=cap)
      (jn: ∀row,row∈rows->row.length=(Y d' m).size)
      (bH: ∀(i j:Nat) (row:List T) (x:T) (u:Value),rows[i]? =some row->row[j]? =some x->us[i*(Y d' m).size+j]? =some u->eJ d' w X ((Y d' m).dv j) x u (B i j))
      (fy: ∀i j c,B i j c->i<rows.length/\j<(Y d' m).size/\c≠b)
      (cA: ∀i j gF cr c,B i j c->B gF cr c->i=gF/\j=cr)
      (gT: ∀c,N c↔c=b\/ ∃i j,B i j c):
      eJ d' w X (some m) (.aa rows) (.slice (some ⟨b,0,none⟩) rows.length cap) N
theorem eJ.mono{U:Nat->Prop}{x:T}{N:Nat->Prop}(h:eJ t w X m x v N)(e:Ext X w w')(r: ∀b,b<w.heap.size->U b->X b)
    (q: ∀b,N b->w'.heap[b]? =w.heap[b]?):eJ t w' U m x v N:=by
  induction h with
  |ee x v N h a=>exact .ee x v N (h.mono e r) a
  |nil m N a=>exact .nil m N a
  |own m k b n s B N y l z A o R C D a F=>
    refine .own m k b n s B N ?_ l z A o (λi j p x u G K L=>F i j p x u G K L λc Q=>q c ((a c).2 (.inr ⟨i,j,Q⟩))) C D a;rw[q b ((a b).2 (.inl rfl))];exact y
theorem eJ.iff{x:T}{N j:Nat->Prop}(h:eJ t w X m x v N)(a: ∀c,j c↔N c):eJ t w X m x v j:=by
  cases h with
  |ee _ _ _ h e=>exact .ee _ _ _ h (λc k=>e c ((a c).1 k))
  |nil _ _ e=>exact .nil _ _ (λc k=>e c ((a c).1 k))
  |own m i b l o B _ p q r s n y z A e=>exact .own m i b l o B _ p q r s n y z A λc=>(a c).trans (e c)
theorem eJ.lt{x:T}{N:Nat->Prop}(h:eJ t w X m x v N): ∀c,N c->c<w.heap.size:=by
  induction h with
  |ee _ _ _ _ a=>exact λc e=>a7 e (a c)
  |nil _ _ a=>exact λc e=>a7 e (a c)
  |own m k b l q B N r s C D n F y G a z=>
    intro c e;rcases(a c).1 e with rfl|⟨i,j,o⟩
    · exact(gw.1 r).1
    · obtain⟨p,K,_⟩:=y i j c o;have L:=n _ (ft p);have A:i*(Y t m).size+j<q.size:=by
        rw[s]
        have:(i+1)*(Y t m).size<=l*(Y t m).size:=dq _ O;rw[dM] at this;omega
      exact z i j _ (k[i][j]' O) _ (bh p) (bh O) (f' A) c o
theorem eJ.q7{u:Nat->Prop}{x:T}{N:Nat->Prop}(h:eJ t w X m x v N)(A: ∀b,u b->X b)(l: ∀b,N b-> ¬u b):b9 w u x v:=by
  induction h with
  |ee x v N h q=>exact h.mono (Ext.refl _ _) (λb _=>A b)
  |nil m N q=>exact .eH _ _
  |own m n b e k B N s y L C o Q R W q D=>
    refine .aa n b 0 (Y t m).size e (λi j=>k.getD (i*(Y t m).size+j) undef) (gw.1 s).1 (l b ((q b).2 (.inl rfl))) C o (λi j aD F=>?_) λi j p x r z=>?_
    · have a:i*(Y t m).size+j<k.size:=by
        rw[y]
        have:(i+1)*(Y t m).size<=e*(Y t m).size:=dq _ O;rw[dM] at this;omega
      simp[World.cell?,s,a]
    · have aD:=(bt.1 r).1;have F:j<(Y t m).size:=by rw[<-o p (bA r)];exact(bt.1 z).1
      have a:i*(Y t m).size+j<k.size:=by
        rw[y]
        have:(i+1)*(Y t m).size<=e*(Y t m).size:=dq _ O;rw[dM] at this;omega
      have G:k.getD (i*(Y t m).size+j) undef=k[i*(Y t m).size+j]:=by simp[a]
      show b9 w u x (k.getD (i*(Y t m).size+j) undef);rw[G];exact D i j p x _ r z (f' a) λc K=>l c ((q c).2 (.inr ⟨i,j,K⟩))
def Cell(a:List df)(m:Nat)(b:List (Nat×Nat×V))(β:Map)(w:World)(X:Nat->Prop)(i j:Nat)(x:T)(u:Value)(N:Nat->Prop):Prop:=
  (∀v,(i,j,v)∈b->aS β w X v u/\ ∀c,¬N c)/\((∀v,(i,j,v)∉b)->eJ a w X ((Y a m).dv j) x u N)
theorem Cell.mono{m:Nat}{Y:List (Nat×Nat×V)}{U:Nat->Prop}{x:T}{N:Nat->Prop}(h:Cell t m Y β w X i j x u N)
    (e:Ext X w w') (l: ∀b,b<w.heap.size->U b->X b) (a:cN β β') (c:Shaped β w w') (k: ∀b,N b->w'.heap[b]? =w.heap[b]?):Cell t m Y β' w' U i j x u N:=
  ⟨λv n=>⟨(h.1 v n).1.mono e l a c,(h.1 v n).2⟩,λo=>(h.2 o).mono e l k⟩
theorem Cell.none{m:Nat}{x:T}{N:Nat->Prop}(h:Cell t m [] β w X i j x u N):eJ t w X ((Y t m).dv j) x u N:=h.2 λ_ a=>List.not_mem_nil a
theorem Cell.of{m:Nat}{x:T}{N:Nat->Prop}(h:eJ t w X ((Y t m).dv j) x u N):Cell t m [] β w X i j x u N:=⟨λ_ a=>a7 a List.not_mem_nil,λ_=>h⟩
def b4(β:Map)(w:World)(X:Nat->Prop)(l:Nat):E->Prop
  | .cells cs=> ∃(b:Nat) (h:Array Value) (ty:TypeId),β l=some (some b,0)/\w.heap[b]? =some (.cells h ty (0,0))/\h.size=cs.length/\
      ∀(i:Nat) c u,cs[i]? =some c->h[i]? =some u->aS β w X c u
  | .arr ty gen k a=>1<=gen/\((β l=some (none,gen)/\a=[])\/ ∃(b:Nat) (h:Array Value),β l=some (some b,gen)/\w.heap[b]? =some (.cells h ty (0,0))/\
      a.length*k<=h.size/\(∀e,e∈a->e.length=k)/\
      ∀(i j:Nat) (e:List T) (x:T) (u:Value),a[i]? =some e->e[j]? =some x->h[i*k+j]? =some u->b9 w X x u)
  | .av o m gen a r=>1<=gen/\((β l=some (none,gen)/\a=[]/\(∀c,¬β.n l c))\/ ∃(b:Nat) (h:Array Value) (B:Nat->Nat->Nat->Prop),β l=some (some b,gen)/\
      w.heap[b]? =some (.cells h (Y o m).ty (0,0))/\a.length*(Y o m).size<=h.size/\(∀e,e∈a->e.length=(Y o m).size)/\
      (∀(i j:Nat) (e:List T) (x:T) (u:Value),a[i]? =some e->e[j]? =some x->h[i*(Y o m).size+j]? =some u->Cell o m r β w X i j x u (B i j))/\
      (∀i j c,B i j c->i<a.length/\j<(Y o m).size/\c≠b)/\(∀i j p q c,B i j c->B p q c->i=p/\j=q)/\ ∀c,β.n l c↔ ∃i j,B i j c)
theorem b4.mono{N:Nat->Prop}{T:E}(h:b4 β w X k T)(e:Ext X w w')(D: ∀b,b<w.heap.size->N b->X b)
    (r:cN β β') (o: ∀x,β k=some x->β' k=some x) (s:Shaped β w w') (a: ∀b,At β k b->w'.heap[b]? =w.heap[b]?) (G: ∀b,β'.n k b↔β.n k b:=by exact λ_=>Iff.rfl):b4 β' w' N k T:=by
  cases T with
  |cells cs=>
    obtain⟨b,v,ty,l,p,y,z⟩:=h;exact⟨b,v,ty,o _ l,by rw[a b (.inl ⟨_,l⟩)];exact p,y,λi c u A Q=>(z i c u A Q).mono e D r s⟩
  |arr ty gen K C=>
    refine⟨h.1,?_⟩;rcases h.2 with ⟨l,p⟩|⟨b,v,l,p,y,z,F⟩
    · exact .inl ⟨o _ l,p⟩
    · exact .inr ⟨b,v,o _ l,by rw[a b (.inl ⟨_,l⟩)];exact p,y,z,λi j q x u ay a2 a3=>(F i j q x u ay a2 a3).mono e D⟩
  |av t m gen C I=>
    refine⟨h.1,?_⟩;rcases h.2 with ⟨l,p,R⟩|⟨b,v,B,l,p,y,z,F,W,f,L⟩
    · exact .inl ⟨o _ l,p,λc A=>R c ((G c).1 A)⟩
    · refine .inr ⟨b,v,B,o _ l,by rw[a b (.inl ⟨_,l⟩)];exact p,y,z,λi j q x u ay a2 a3=>(F i j q x u ay a2 a3).mono e D r s λc A=>a c (.inr ((L c).2 ⟨i,j,A⟩)),W,f,λc=>(G c).trans (L c)⟩
def Map.put(a:Map)(d:Nat)(x:Option (Option Nat×Nat)):Map:=⟨λi=>bif Nat.beq i d then x else a i,a.n⟩
theorem iF(a:Map)(d:Nat)(x:Option (Option Nat×Nat)):a.put d x d=x:=by simp[Map.put]
theorem dK(a:Map)(d i:Nat)(x:Option (Option Nat×Nat))(h:i≠d):a.put d x i=a i:=by
  have:Nat.beq i d=false:=by cases b:Nat.beq i d with
    |false=>rfl
    |true=>exact a7 (ca b) h
  simp[Map.put,this]
def aE{α:Type}(f:Nat->α)(d:Nat)(v:α):Nat->α:=λi=>bif Nat.beq i d then v else f i
theorem bu{k:Type}(f:Nat->k)(d:Nat)(v:k):aE f d v d=v:=by simp[aE]
theorem bx{k:Type}(f:Nat->k)(d i:Nat)(v:k)(h:i≠d):aE f d v i=f i:=by
  have:Nat.beq i d=false:=by cases a:Nat.beq i d with
    |false=>rfl
    |true=>exact a7 (ca a) h
  simp[aE,this]
structure S where
  t:Nat->V
  H:Nat->Option E
  u:Nat->Bool
structure ef where
  td:Nat
  W:World
def ef.ok(G:ef)(w:World):Prop:=G.td<=w.heap.size/\ ∀b,b<G.td->w.heap[b]? =G.W.heap[b]?
structure Ctx where
  P:Program
  G:ef
  w0:World
  X:Nat->Prop
  cE:Nat
  gd:Map
  nt:Nat
def Ctx.M(K:Ctx)(b:Nat):Prop:= ∃id,id<K.cE/\At K.gd id b
def own(K:Ctx)(β:Map)(H:Nat->Option E)(b:Nat):Prop:=K.X b\/ ∃id,H id≠none/\At β id b
def ia(n:Nat)(a c:Map)(i:Nat):Prop:= ∀id,id<n->(c id=a id)\/ ∃q g e h,a id=some (q,g)/\1<=g/\c id=some (e,h)/\g<h/\ ∀b,e=some b->q=some b\/i<=b
theorem ia.refl(n:Nat)(β:Map)(sz:Nat):ia n β β sz:=λ_ _=> .inl rfl
theorem ia.keep{a V:Map}(h:ia n W a sz)(b: ∀id,id<n->V id=a id):ia n W V sz:=λid hid=>by rw[b id hid];exact h id hid
theorem ia.more{V a:Map}(h:ia n V a sz)(m: ∀id,id<n->(W id=a id)\/ ∃q g i k,a id=some (q,g)/\1<=g/\W id=some (i,k)/\g<k/\ ∀b,i=some b->q=some b\/sz<=b):ia n V W sz:=by
  intro id hid;rcases m id hid with e|⟨q,g,i,k,ay,a2,a3,a4,a5⟩
  · rw[e];exact h id hid
  · rcases h id hid with e|⟨o,p,x,y,r,s,l,z,v⟩
    · exact .inr ⟨q,g,i,k,by rw[<-e];exact ay,a2,a3,a4,a5⟩
    · rw[ay] at l;cases l;exact .inr ⟨o,p,i,k,r,s,a3,O,λb w=>by
        rcases a5 b w with c|c
        · exact v b c
        · exact .inr c⟩
theorem ia.grow{V a:Map}(h:ia n V a sz)(k gen:Nat)(q e:Option Nat)(m:a k=some (q,gen))(s:1<=gen)(o:W k=some (e,gen+1))(c: ∀b,e=some b->q=some b\/sz<=b)
    (v: ∀id,id≠k->W id=a id):ia n V W sz:=by
  intro id hid;by_cases p:id=k
  · subst p;rcases h id hid with i|⟨w,x,B,C,i,y,r,D,z⟩
    · exact .inr ⟨q,gen,e,gen+1,by rw[<-i];exact m,s,o,ly _,c⟩
    · rw[m] at r;cases r;exact .inr ⟨w,x,e,gen+1,i,y,o,O,λb A=>by
        rcases c b A with l|l
        · exact z b l
        · exact .inr l⟩
  · rw[v id p];exact h id hid
theorem Shaped.ext(h:Shaped W a w)(c:a.heap.size<=w.heap.size)(e:Ext (λ_=>False) w w'):Shaped W a w':=
  λb i=>(oA (e.keep b (iU i c) λh=>h)).trans (h b i)
structure Rel (K:Ctx) (β:Map) (s:S) (a:Act) (w:World):Prop where
  ext:Ext K.M K.w0 w
  k7:K.G.ok K.w0
  lp: ∀b,K.M b->K.G.td<=b
  gy: ∀b,K.X b->b<K.w0.heap.size/\ ¬K.M b
  base:ia K.cE K.gd β K.w0.heap.size
  gI:Shaped K.gd K.w0 w
  low: ∀id,id<K.cE->s.u id=true
  cW: ∀id,s.u id=false->β id=none
  du: ∀id b,s.u id=false-> ¬β.n id b
  mX: ∀id hT b,At K.gd id b->At K.gd hT b->id=hT
  inj: ∀id hT b,At β id b->At β hT b->id=hT
  fresh: ∀id b,At β id b->(K.M b\/K.w0.heap.size<=b)/\b<w.heap.size
  heap: ∀id e,s.H id=some e->s.u id=true/\b4 β w (own K β s.H) id e
  cu: ∀i,aS β w (own K β s.H) (s.t i) (a.tmps.getD i undef)
  nt:a.tmps.size=K.nt
  defers:a.defers=[]
theorem Nk{G:ef}(h:G.ok w)(e:Ext X w w')(c: ∀b,X b->G.td<=b):G.ok w':=
  ⟨dS h.1 e.size,λb a=>(e.keep b (iU a h.1) λi=>by have:=c b i;omega).trans (h.2 b a)⟩
variable {K:Ctx}{s s':S}
theorem Rel.vB{a:Act}(h:Rel K β s a w):K.G.ok w:=Nk h.k7 h.ext h.lp
mutual
def V.ok(u:Nat->Bool):V->Bool
  | .ref id _=>u id
  | .aN id _ _ _ _=>u id
  | .cd id _ _ _ _=>u id
  | .agg cs=>e7 u cs
  | .bG cs=>e7 u cs
  | .fn _ cs=>e7 u cs
  | .t _=>true
  | .aP _=>true
  | .ct=>true
def e7(u:Nat->Bool):List V->Bool
  | []=>true
  |c::cs=>V.ok u c&&e7 u cs
end
theorem qQ{u:Nat->Bool}: ∀{cs:List V} {i:Nat} {c:V},e7 u cs=true->cs[i]? =some c->V.ok u c=true
  | [],_,_,_,h=>by simp at h
  |c::cs,0,_,h,a=>by simp at a;subst a;simp[e7] at h;exact h.1
  |c::cs,i+1,_,h,a=>by simp at a;simp[e7] at h;exact qQ h.2 a
theorem aS.under{u:Nat->Bool}{x:V}(h:aS β w X x v)(A: ∀b,X' b->X b)
    (l: ∀id,u id=true->β' id=β id) (p:x.ok u=true):aS β' w X' x v:=by
  induction h with
  |t x v h=>exact .t x v (h.mono (Ext.refl _ _) λb _=>A b)
  |agg cs s k _ y=>exact .agg cs s k (λi c u o z=>y i c u o z (qQ (by simpa[V.ok] using p) o))
  |bG cs s k _ y=>exact .bG cs s k (λi c u o z=>y i c u o z (qQ (by simpa[V.ok] using p) o))
  |ref id e b n=>exact .ref id e b (by rw[l id (by simpa[V.ok] using p)];exact n)
  |aP cells b e f n B o F=>exact .aP cells b e f n (λh=>B (A _ h)) o (λj x h=>(F j x h).mono (Ext.refl _ _) λb _=>A b)
  |aN id gen a e len C b m ty r n G K L k Q=>exact .aN id gen a e len C b m ty r (by rw[l id (by simpa[V.ok] using p)];exact n) G K L k Q
  |fB id gen a r n=>exact .fB id gen a r (by rw[l id (by simpa[V.ok] using p)];exact n)
  |hW id gen a e len v q g D n r=>exact .hW id gen a e len v q g D (by rw[l id (by simpa[V.ok] using p)];exact n) r
  |cd id gen a i e b r n=>exact .cd id gen a i e b r (by rw[l id (by simpa[V.ok] using p)];exact n)
  |iG id gen a i e v q g D n r=>exact .iG id gen a i e v q g D (by rw[l id (by simpa[V.ok] using p)];exact n) r
  |fn f cs s k _ y=>exact .fn f cs s k (λi c u o z=>y i c u o z (qQ (by simpa[V.ok] using p) o))
  |ct v=>exact .ct v
def pZ(u:Nat->Bool):List (Nat×Nat×V)->Bool
  | []=>true
  |h::a=>h.2.2.ok u&&pZ u a
theorem yR{u:Nat->Bool}: ∀{a:List (Nat×Nat×V)} {i j:Nat} {v:V},pZ u a=true->(i,j,v)∈a->v.ok u=true
  | [],_,_,_,_,h=>by cases h
  |h::a,i,j,v,b,hm=>by
    simp only[pZ,Bool.and_eq_true] at b;rcases dz.1 hm with rfl|hm
    · exact b.1
    · exact yR b.2 hm
def E.ok(u:Nat->Bool):E->Bool
  | .cells cs=>e7 u cs
  | .arr _ _ _ _=>true
  | .av _ _ _ _ a=>pZ u a
def S.le(K:Ctx)(s s':S):Prop:= ∀β a w,Rel K β s a w-> ∃b,Rel K b s' a w
theorem S.le.refl(K:Ctx)(s:S):s.le K s:=λβ _ _ h=>⟨β,h⟩
theorem S.le.trans{a b c:S}(h:a.le K b)(k:b.le K c):a.le K c:=λβ x w i=>let ⟨e,l⟩:=h β x w i;k e x w l
def cX(v b:V):Prop:= ∀a w X u,aS a w X v u->aS a w X b u
theorem cX.refl(v:V):cX v v:=λ_ _ _ _ h=>h
theorem cX.of_eq{v c8:V}(h:v=c8):cX v c8:=h▸cX.refl v
theorem cX.nil:cX (.t .en) (.t (.aa [])):=by intro β w X u h;cases h with|t _ _ h=>cases h;exact .t _ _ (.eH _ _)
theorem cX.ct(v:V):cX v .ct:=λ_ _ _ _ _=> .ct _
theorem cX.trans{a b c:V}(h:cX a b)(k:cX b c):cX a c:=λe w X u i=>k e w X u (h e w X u i)
def ez:List V->List V->Prop
  | [],[]=>True
  |v::b,c::a=>cX v c/\ez b a
  |_,_=>False
theorem ez.refl: ∀a:List V,ez a a
  | []=>trivial
  |v::a=>⟨cX.refl v,ez.refl a⟩
theorem ez.get: ∀{b a:List V},ez b a->b.length=a.length/\ ∀(i:Nat) c,a[i]? =some c-> ∃v,b[i]? =some v/\cX v c
  | [],[],_=>⟨rfl,λi c h=>by simp at h⟩
  |v::b,c::a,h=>by
    obtain⟨k,l⟩:=ez.get h.2;refine⟨by simp[k],λi x e=>?_⟩;cases i with
    |zero=>simp at e;subst e;exact⟨v,rfl,h.1⟩
    |succ i=>simp at e;exact l i x e
  | [],_::_,h=>h.elim
  |_::_,[],h=>h.elim
theorem cX.agg{b a:List V}(h:ez b a):cX (.agg b) (.agg a):=by
  intro r w X u e;obtain⟨s,k⟩:=h.get;cases e with
  |agg _ l x m=>exact .agg _ l O λi c u n o=>by obtain⟨v,p,q⟩:=k i c n;exact q _ _ _ _ (m i v u p o)
theorem cX.bG{b a:List V}(h:ez b a):cX (.bG b) (.bG a):=by
  intro r w X u e;obtain⟨s,k⟩:=h.get;cases e with
  |bG _ l x m=>exact .bG _ l O λi c u n o=>by obtain⟨v,p,q⟩:=k i c n;exact q _ _ _ _ (m i v u p o)
def hF(e a:E):Prop:=match e,a with
  | .cells cs,.cells b=>ez cs b
  |e,a=>e=a
theorem hF.refl(e:E):hF e e:=by cases e with
  |cells cs=>exact ez.refl cs
  |arr=>rfl
  |av=>rfl
theorem hF.q5{e':E}(h:hF e e')(k:b4 W w X n e):b4 W w X n e':=by
  cases e with
  |cells cs=>
    cases e' with
    |cells o=>
      obtain⟨C,p⟩:=ez.get h;obtain⟨b,q,ty,r,s,D,x⟩:=k;exact⟨b,q,ty,r,s,O,λi c u y z=>by obtain⟨v,A,B⟩:=p i c y;exact B _ _ _ _ (x i v u A z)⟩
    |arr=>cases h
    |av=>cases h
  |arr ty gen l a=>
    cases e' with
    |cells=>cases h
    |arr=>cases h;exact k
    |av=>cases h
  |av F m gen a G=>
    cases e' with
    |cells=>cases h
    |arr=>cases h
    |av=>cases h;exact k
def lK(t:Nat->V)(u:Nat->Bool)(a:Nat->V):Prop:= ∀i,a i= .ct\/(cX (t i) (a i)/\(a i).ok u=true)
def iZ(H:Nat->Option E)(u:Nat->Bool)(b:Nat->Option E):Prop:= ∀id e,b id=some e->(∃a,H id=some a/\hF a e)/\u id=true/\e.ok u=true
def pG(u a:Nat->Bool):Prop:= ∀id,a id=true->u id=true
def j4:Nat->(Nat->Bool)->Bool
  |0,_=>true
  |n+1,u=>u n&&j4 n u
theorem Cj{u:Nat->Bool}: ∀{n:Nat},j4 n u=true-> ∀id,id<n->u id=true
  |0,_,_,h=>a7 h (lA _)
  |n+1,h,id,hid=>by
    simp[j4] at h;by_cases e:id=n
    · subst e;exact h.1
    · exact Cj h.2 id O
def m6:Nat->V:=λ_=> .ct
def j9:Nat->Option E:=λ_=>none
def e6:Nat->Bool:=λ_=>false
theorem lK.nil(t:Nat->V)(u:Nat->Bool):lK t u m6:=λ_=> .inl rfl
theorem lK.aE{t:Nat->V}{u:Nat->Bool}{r:Nat->V}{d:Nat}{v:V}(h:cX (t d) v)(b:v.ok u=true)(c:lK t u r):lK t u (Lift.aE r d v):=by
  intro i;by_cases a:i=d
  · subst a;rw[bu];exact .inr ⟨h,b⟩
  · rw[bx _ _ _ _ a];exact c i
theorem iZ.nil(H:Nat->Option E)(u:Nat->Bool):iZ H u j9:=λ_ _ h=>by simp[j9] at h
theorem iZ.aE{H:Nat->Option E}{u:Nat->Bool}{r:Nat->Option E}{d:Nat}(b:E)(h:H d=some b)(k:hF b e)(l:u d=true)(m:e.ok u=true)(n:iZ H u r):iZ H u (Lift.aE r d (some e)):=by
  intro i e' a;by_cases c:i=d
  · subst c;rw[bu] at a;cases a;exact⟨⟨b,h,k⟩,l,m⟩
  · rw[bx _ _ _ _ c] at a;exact n i e' a
theorem pG.nil(u:Nat->Bool):pG u e6:=λ_ h=>by simp[e6] at h
theorem pG.aE{u r:Nat->Bool}{d:Nat}(h:u d=true)(c:pG u r):pG u (Lift.aE r d true):=by
  intro i a;by_cases b:i=d
  · subst b;exact h
  · rw[bx _ _ _ _ b] at a;exact c i a
theorem b4.under{N:Nat->Prop}{u:Nat->Bool}(h:b4 β w X k e)(C: ∀b,N b->X b)
    (a: ∀k,u k=true->β' k=β k) (l:u k=true) (G:e.ok u=true) (K: ∀b,β'.n k b↔β.n k b:=by exact λ_=>Iff.rfl):b4 β' w N k e:=by
  cases e with
  |cells cs=>
    obtain⟨b,r,ty,p,q,s,y⟩:=h;exact⟨b,r,ty,by rw[a k l];exact p,q,s,λi c u D Q=>(y i c u D Q).under C a (qQ G D)⟩
  |arr ty gen L z=>
    refine⟨h.1,?_⟩;rcases h.2 with ⟨p,q⟩|⟨b,r,p,q,s,y,A⟩
    · exact .inl ⟨by rw[a k l];exact p,q⟩
    · exact .inr ⟨b,r,by rw[a k l];exact p,q,s,y,λi j o x u ay a2 a3=>(A i j o x u ay a2 a3).mono (Ext.refl _ _) λb _=>C b⟩
  |av M m gen z S=>
    refine⟨h.1,?_⟩;rcases h.2 with ⟨p,q,R⟩|⟨b,r,B,p,q,s,y,A,W,f,t⟩
    · exact .inl ⟨by rw[a k l];exact p,q,λc D=>R c ((K c).1 D)⟩
    · refine .inr ⟨b,r,B,by rw[a k l];exact p,q,s,y,λi j o x u ay a2 a3=>⟨λv F=>⟨((A i j o x u ay a2 a3).1 v F).1.under C a (yR G F),((A i j o x u ay a2 a3).1 v F).2⟩,
        λI=>((A i j o x u ay a2 a3).2 I).mono (Ext.refl _ _) (λb _=>C b) λ_ _=>rfl⟩,W,f,λc=>(K c).trans (t c)⟩
def cut(β:Map)(u:Nat->Bool):Map:=⟨λid=>bif u id then β id else none,λid b=>u id=true/\β.n id b⟩
theorem uS{u:Nat->Bool}{b:Nat}(h:At (cut W u) i b):At W i b:=by
  rcases h with ⟨g,h⟩|h
  · refine .inl ⟨g,?_⟩;by_cases a:u i=true
    · simpa[cut,a] using h
    · simp[cut,a] at h
  · exact .inr h.2
theorem rQ{u:Nat->Bool}{id:Nat}(h:u id=true):cut W u id=W id:=by simp[cut,h]
theorem Cm(c:iZ s.H s'.u s'.H): ∀b,own K (cut β s'.u) s'.H b->own K β s.H b:=by
  rintro b (h|⟨id,i,k⟩)
  · exact .inl h
  · cases a:s'.H id with
    |none=>exact a7 a i
    |some e=>
      obtain⟨m,l,_⟩:=(c id e a).1;exact .inr ⟨id,by rw[l];simp,uS k⟩
theorem Rel.cut{a:Act}(l:Rel K β s a w)(q:lK s.t s'.u s'.t)(p:iZ s.H s'.u s'.H)(n:j4 K.cE s'.u=true):Rel K (cut β s'.u) s' a w:=by
  have c:=Cm (K:=K) (β:=β) p;refine {l with base:= ?_,low:=Cj n,cW:= ?_,du:= ?_,inj:= ?_,fresh:= ?_,heap:= ?_,cu:= ?_}
  · exact l.base.keep λid hid=>rQ (Cj n id hid)
  · intro id hid;simp[Lift.cut,hid]
  · intro id b hid h;rw[h.1] at hid;cases hid
  · intro id o b m k;exact l.inj id o b (uS m) (uS k)
  · intro id b h;exact l.fresh id b (uS h)
  · intro id e r;obtain⟨⟨v,m,n⟩,k,x⟩:=p id e r;exact⟨k,(n.q5 (l.heap id v m).2).under c (λ_ h=>rQ h) k x λ_=>⟨λh=>h.2,λh=>⟨k,h⟩⟩⟩
  · intro i;rcases q i with h|⟨m,k⟩
    · rw[h];exact .ct _
    · exact(m _ _ _ _ (l.cu i)).under c (λ_ h=>rQ h) k
theorem RQ(a:lK s.t s'.u s'.t)(b:iZ s.H s'.u s'.H)(_hu:pG s.u s'.u)(c:j4 K.cE s'.u=true):s.le K s':=
  λe _ _ h=>⟨Lift.cut e s'.u,h.cut a b c⟩
def x7:Value->V
  | .bool b=> .t (.bool b)
  | .int k n=> .t (.int k n)
  | .string s=> .t (.str s.data.toList)
  | .slice none 0 0=> .t .en
  | .pointer none=> .t .gW
  | .nilIface=> .t .eO
  | .nilFunc=> .t .jw
  |_=> .ct
def fv:Value->V
  | .agg cs=> .agg (cs.toList.map x7)
  |v=>x7 v
def S.get(s:S):Operand->V
  | .tmp t=>s.t t
  | .const v=>fv v
  | .func f=> .fn f []
  | .global _=> .ct
theorem C8(a:Map)(w:World)(X:Nat->Prop)(v:Value):aS a w X (x7 v) v:=by
  unfold x7;split
  · exact .t _ _ (.bool _)
  · exact .t _ _ (.int _ _)
  · rename_i s;have h:=b9.str (w:=w) (X:=X) s.data.toList;exact .t _ _ (by simpa using h)
  · exact .t _ _ .en
  · exact .t _ _ .gW
  · exact .t _ _ .eO
  · exact .t _ _ .jw
  · exact .ct _
theorem tb(β:Map)(w:World)(X:Nat->Prop)(v:Value):aS β w X (fv v) v:=by
  unfold fv;split
  · rename_i cs;exact .agg _ _ aV (λi c u a e=>by
      simp only[List.getElem?_map,Array.getElem?_toList,Option.map_eq_some_iff] at a;obtain⟨k,b,h⟩:=a;rw[e] at b;cases b;rw[<-h];exact C8 _ _ _ _)
  · exact C8 _ _ _ _
def cI(β:Map)(w:World)(X:Nat->Prop):List V->List Value->Prop
  | [],[]=>True
  |v::a,u::b=>aS β w X v u/\cI β w X a b
  |_,_=>False
theorem cI.mono{β β':Map}{w w':World}{X j:Nat->Prop}: ∀{c:List V} {i:List Value},cI β w X c i->Ext X w w'->(∀b,b<w.heap.size->j b->X b)->
    cN β β'->Shaped β w w'->cI β' w' j c i
  | [],[],_,_,_,_,_=>trivial
  |_::_,_::_,h,e,k,a,l=>⟨h.1.mono e k a l,cI.mono h.2 e k a l⟩
  | [],_::_,h,_,_,_,_=>h.elim
  |_::_,[],h,_,_,_,_=>h.elim
theorem cI.le: ∀{β:Map} {w:World} {X:Nat->Prop} {b a:List V} {c:List Value},cI β w X b c->ez b a->cI β w X a c
  |_,_,_,[],[],[],_,_=>trivial
  |_,_,_,_::_,_::_,_::_,h,k=>⟨k.1 _ _ _ _ h.1,cI.le h.2 k.2⟩
  |_,_,_,[],_::_,_,_,k=>k.elim
  |_,_,_,_::_,[],_,_,k=>k.elim
  |_,_,_,[],[],_::_,h,_=>h.elim
  |_,_,_,_::_,_::_,[],h,_=>h.elim
theorem Rel.get{a:Act}(h:Rel K β s a w)(x:Operand):aS β w (own K β s.H) (s.get x) (a.eval x):=by
  cases x with
  |tmp t=>exact h.cu t
  |const v=>exact tb _ _ _ v
  |func f=>exact .fn f [] #[] rfl (λi c u b _=>by simp at b)
  |global g=>exact .ct _
theorem Rel.k6{a:Act}(h:Rel K β s a w): ∀b:List Operand,cI β w (own K β s.H) (b.map s.get) (b.map a.eval)
  | []=>trivial
  |x::b=>⟨h.get x,h.k6 b⟩
def bK(P:Program)(H:Nat->Option E)(o:Oper)(a:List V)(v:V):Prop:=
  ∀(b:Map) (w:World) (X:Nat->Prop) (c:Operand->Value),(∀id e,H id=some e->b4 b w X id e)->
    cI b w X a (o.op.operands.toList.map c)-> ∃u,(execOp c o).run P w= .ok (.value u) w/\aS b w X v u
def dj(K:Ctx)(o:Oper)(s h:S):Prop:=
  ∀i a w next Q,Rel K i s a w->(∀b c e,Rel K b h c e->next c e)->o.wp K.P a w next Q
def S.put(s:S)(d:Option Tmp)(v:V):S:=match d with
  |some d=>{s with t:=aE s.t d v}
  |none=>s
theorem Rel.put{a:Act}(h:Rel K β s a w)(d:Option Tmp)(e: ∀i,d=some i->Nat.blt i K.nt=true){v:V}(k:aS β w (own K β s.H) v u):
    Rel K β (s.put d v) (a.put d u) w:=by
  cases d with
  |none=>exact h
  |some d=>
    have b:d<a.tmps.size:=by rw[h.nt];have:=e d rfl;simpa[Nat.blt_eq] using this
    refine {h with cu:= ?_,nt:= ?_}
    · intro i;simp only[Act.put,S.put];by_cases c:i=d
      · subst c;rw[bu];simp only[Array.getD_eq_getD_getElem?,Array.getElem?_setIfInBounds_self_of_lt b,Option.getD_some];exact k
      · rw[bx _ _ _ _ c];simp only[Array.getD_eq_getD_getElem?,Array.getElem?_setIfInBounds_ne (Ne.symm c)]
        have:=h.cu i;simpa only[Array.getD_eq_getD_getElem?] using this
    · simpa[Act.put] using h.nt
theorem Mb{o:Oper}{vals:List V}{v:V}(l: ∀i,o.dst=some i->Nat.blt i K.nt=true)(m:ez (o.op.operands.toList.map s.get) vals)(h:bK K.P s.H o vals v):
    dj K o s (s.put o.dst v):=by
  intro c a w next Q k n
  obtain⟨u,b,p⟩:=h c w (own K c s.H) a.eval (λid e q=>(k.heap id e q).2) ((k.k6 _).le m);unfold Oper.wp;rw[b];exact n c _ w (k.put o.dst l p)
section kU
variable {P:Program}{H:Nat->Option E}{d:Option Tmp}{ty:TypeId}{pos:String}{af:Array Edge}{g:Option (Nat×Bool)}
theorem SL(x:Operand)(v:V):bK P H ⟨d,.move x,ty,pos,af,g⟩ [v] v:=by intro c w X a _ b;exact⟨a x,rfl,b.1⟩
theorem PL(x:Operand)(v:V):bK P H ⟨d,.assign x,ty,pos,af,g⟩ [v] v:=by intro c w X a _ b;exact⟨a x,rfl,b.1⟩
theorem kJ{b:Bool}(h:aS W w X (.t (.bool b)) u):u= .bool b:=by cases h with|t _ _ h=>cases h with|bool=>rfl
theorem cY{k:IntKind}{n:Int}(h:aS W w X (.t (.int k n)) u):u= .int k n:=by cases h with|t _ _ h=>cases h with|int=>rfl
theorem fD{l:List UInt8}(h:aS W w X (.t (.str l)) u):u= .string ⟨l.toArray⟩:=by cases h with|t _ _ h=>cases h with|str=>rfl
theorem Md(c x y:Operand)(v b:V):bK P H ⟨d,.pick c x y,ty,pos,af,g⟩ [.t (.bool true),v,b] v:=by
  intro h w X e _ a;refine⟨e x,?_,a.2.1⟩
  have:=kJ a.1;simp[execOp,this,asBool]
theorem Ls(c x y:Operand)(v c8:V):bK P H ⟨d,.pick c x y,ty,pos,af,g⟩ [.t (.bool false),v,c8] c8:=by
  intro e w X b _ a;refine⟨b y,?_,a.2.2.1⟩
  have:=kJ a.1;simp[execOp,this,asBool]
theorem Te(x y:Operand)(t b:TypeId)(k:IntKind)(m n:Int):bK P H ⟨d,.binOp .add t x y b,ty,pos,af,g⟩ [.t (.int k m),.t (.int k n)] (.t (.int k (k.wrap (m+n)))):=by intro c w X e _ a;refine⟨.int k (k.wrap (m+n)),?_,.t _ _ (.int _ _)⟩;simp[execOp,cY a.1,cY a.2.1,eqGuard,binOp,Op.intArith]
end kU
end
section
def b5(K:Ctx)(c:Code)(s:S)(Q:Exit->S->Prop):Prop:=
  ∀l a w d,Rel K l s a w->(∀e h b i k,Q e h->Rel K b h i k->d e i k)->c.wp K.P d a w
def mF(K:Ctx)(b:Array Oper)(l:List Oper)(s:S)(Q:S->Prop):Prop:=
  ∀k a w d,Rel K k s a w->(∀e c h i,Q e->Rel K c e h i->d .normal h i)->wpList K.P b d l a w
def mG(next:S->Prop)(Q:Exit->S->Prop):Exit->S->Prop
  | .normal,s=>next s
  |e,s=>Q e s
def rW(b:Nat)(Q:Exit->S->Prop):Exit->S->Prop
  | .exit a,s=>bif Nat.beq a b then Q .normal s else Q (.exit a) s
  |e,s=>Q e s
def va(a:S->Prop)(Q:Exit->S->Prop):Exit->S->Prop
  | .normal,s=>a s
  |e,s=>Q e s
variable {P:Program}{c x y:Code}{a:Act}{w:World}{b:Bool}{i t:Nat}{β:Map}{X:Nat->Prop}
theorem Ll{R:Type}{Q:Exit->Act->World->Prop}(I:R->Act->World->Prop)(jF :R->Nat)(x:R)(F:I x a w)
    (p: ∀x a w,I x a w->c.wp P (Exit.then (λv w'=> ∃y,I y v w'/\ jF y< jF x) Q) a w):(Code.loop c).wp P Q a w:=by
  intro b k cs;have C: ∀n x a w,jF x=n->I x a w->
      ∃e v w',Q e v w'/\Arrives P (lone (b.at a (.code c:: .inLoop c::k)) cs w) b k cs e v w':=by
    intro n;induction n using Nat.strongRecOn with
    |_ n G=>
      intro x a w H L;obtain⟨e,h,i,o,d⟩:=p x a w L b (.inLoop c::k) cs;cases e with
      |normal=>
        obtain⟨y,q,D⟩:=o;obtain⟨z,A,B,r,m⟩:=G (jF y) (H▸D) y h i rfl q;exact⟨z,A,B,r,.of_steps (Steps.trans d (.one step_inLoop)) m⟩
      |exit id=>exact⟨_,h,i,o,.pass (x:= .inLoop c) rfl (λ_ _=> .inl aV) d⟩
      |goto l=>exact⟨_,h,i,o,.pass (x:= .inLoop c) rfl (λ_ _=> .inl aV) d⟩
      |ret=>exact⟨_,h,i,o,.pass (x:= .inLoop c) rfl (λ_ _=> .inl aV) d⟩
      |panic W=>exact⟨_,h,i,o,.pass (x:= .inLoop c) rfl (λ_ _=> .inl aV) d⟩
      |outgrown=>exact⟨_,h,i,o,.pass (x:= .inLoop c) rfl (λ_ _=> .inl aV) d⟩
  obtain⟨e,v,w',o,d⟩:=C _ x a w rfl F;exact⟨e,v,w',o,.of_steps (.one step_loop) d⟩
section rules
variable {K:Ctx}{s:S}{Q:Exit->S->Prop}
theorem tE{E:Exit->S->Prop}(h:b5 K c s Q)(i: ∀e s,Q e s->E e s):b5 K c s E:=
  λk a w l m n=>h k a w l m λe d b o p q r=>n e d b o p (i e d q) r
theorem qC{b:S}(i:s.le K b)(h:b5 K c b Q):b5 K c s Q:=
  λk a w l m n=>let ⟨d,e⟩:=i k a w m;h d a w l e n
theorem uj(h:b5 K x s (mG (λm=>b5 K y m Q) Q)):b5 K (.seq x y) s Q:=by
  intro n a w o p d;refine wp_seq (h n a w _ p ?_);intro e v k q r i b;cases e with
  |normal=>exact i k q r o b d
  |exit id=>exact d _ _ _ _ _ i b
  |goto l=>exact d _ _ _ _ _ i b
  |ret=>exact d _ _ _ _ _ i b
  |panic c=>exact d _ _ _ _ _ i b
  |outgrown=>exact d _ _ _ _ _ i b
theorem PM(h:Q .normal s):b5 K .skip s Q:=λb a w _ c d=>wp_skip (d _ _ b a w h c)
theorem Rr(h:Q .ret s):b5 K .ret s Q:=λb a w _ c d=>wp_ret (d _ _ b a w h c)
theorem PO(h:Q (.exit i) s):b5 K (.exit i) s Q:=λb a w _ c d=>wp_exit (d _ _ b a w h c)
theorem xO{c:Operand}(l:s.get c= .t (.bool b))(m:b=true->b5 K x s Q)(n:b=false->b5 K y s Q):b5 K (.cond c x y) s Q:=by
  intro e a w i d k;have h:=d.get c;rw[l] at h;have aQ:=kJ h;cases b with
  |true=>exact wp_cond_true aQ (m rfl e a w i d k)
  |false=>exact wp_cond_false aQ (n rfl e a w i d k)
theorem OU(h:b5 K c s (rW i Q)):b5 K (.block i c) s Q:=by
  intro n a w r o m;refine wp_block (h n a w _ o ?_);intro e v p x y k b;cases e with
  |exit d=>
    by_cases hid:d=i
    · subst hid;simp only[rW,Exit.inBlock,if_true] at*;rw[show Nat.beq d d=true by simp,cond_true] at k;exact m _ _ _ _ _ k b
    · simp only[rW,Exit.inBlock] at*;rw[br hid];rw[show Nat.beq d i=false from by cases q:Nat.beq d i with
        |false=>rfl
        |true=>exact a7 (ca q) hid,cond_false] at k
      exact m _ _ _ _ _ k b
  |normal=>exact m _ _ _ _ _ k b
  |goto l=>exact m _ _ _ _ _ k b
  |ret=>exact m _ _ _ _ _ k b
  |panic c=>exact m _ _ _ _ _ k b
  |outgrown=>exact m _ _ _ _ _ k b
theorem PN{ι:Type}(I:ι->S)(p:ι->Prop)(jF :ι->Nat)(x:ι)(G:p x)(H:s.le K (I x))
    (d: ∀x,p x->b5 K c (I x) (va (λF=> ∃y,p y/\ jF y< jF x/\F.le K (I y)) Q)):b5 K (.loop c) s Q:=by
  intro L a w j R k;obtain⟨h,n⟩:=H L a w R;refine Ll (λy W X=>p y/\ ∃h,Rel K h (I y) W X) jF x ⟨G,h,n⟩ ?_;intro y ay f ⟨o,q,r⟩;refine d y o q ay f _ r ?_;intro e F v a2 g i b;cases e with
  |normal=>
    obtain⟨z,A,B,m⟩:=i;obtain⟨C,D⟩:=m v a2 g b;exact⟨z,⟨A,C,D⟩,B⟩
  |exit id=>exact k _ _ _ _ _ i b
  |goto l=>exact k _ _ _ _ _ i b
  |ret=>exact k _ _ _ _ _ i b
  |panic c=>exact k _ _ _ _ _ i b
  |outgrown=>exact k _ _ _ _ _ i b
theorem PQ{b:Array Oper}{Q:S->Prop}(h:Q s):mF K b [] s Q:=λc a w _ d e=>e s c a w h d
theorem Rel.bool(i:Rel K β s a w)(h:s.t t= .t (.bool b)):a.tmps[t]? =some (.bool b):=by
  have d:=i.cu t;rw[h] at d;have c:=kJ d;rw[nE] at c;cases e:a.tmps[t]? with
  |none=>rw[e] at c;simp[undef] at c
  |some x=>rw[e] at c;simp at c;rw[c]
theorem EC{W:Map}:aS W w X (.bG []) undef:= .bG [] #[] rfl λi c u h _=>by simp at h
theorem Rel.W'(e:Rel K β s a w){ops:Array Oper}{j:Nat}{want:Bool}(m:(ops[j]?).bind (·.dst)=some t)(h:s.t t= .bG []):yielded ops a.tmps j≠some want:=by
  have c:=e.cu t;rw[h] at c;have d:a.tmps.getD t undef= .tuple #[]:=by
    generalize a.tmps.getD t undef=y at c;cases c with
    |bG _ i k _=>
      have:i= #[]:=by simpa using k
      rw[this]
  have n: ∀b,a.tmps[t]? ≠some (.bool b):=by
    intro b l;rw[nE,l] at d;simp at d
  unfold yielded
  grind
def d7:Map:=⟨λ_=>none,λ_ _=>False⟩
theorem l7{b:Nat}(h:At d7 i b):False:=by
  rcases h with ⟨_,h⟩|h
  · simp[d7] at h
  · exact h
def yG(P:Program)(G:ef)(f:FuncId)(args:List V)(r:V):Prop:=
  ∀(w:World) (X:Nat->Prop) (a:List Value),G.ok w->(∀b,X b->b<w.heap.size)->cI d7 w X args a->
    Calls P f a.toArray w λe c=> ∃u,e= .returned u/\Ext (λ_=>False) w c/\aS d7 c X r u
theorem aS.any{X':Nat->Prop}{x:V}{v:Value}(h:aS d7 w X x v)(a: ∀b,X' b->X b):aS β w X' x v:=
  h.mono (Ext.refl _ _) (λb _=>a b) (λ_ _ _ h=>by simp[d7] at h) (Shaped.refl _ _)
theorem cI.BM: ∀{β:Map} {w:World} {X:Nat->Prop} {a:List V} {c:List Value},cI β w X a c->e7 e6 a=true->cI d7 w X a c
  |_,_,_,[],[],_,_=>trivial
  |_,_,_,_::_,_::_,h,b=>by
    simp[e7] at b;exact⟨h.1.under (u:=e6) (λ_ h=>h) (λ_ h=>by simp[e6] at h) b.1,cI.BM h.2 b.2⟩
  |_,_,_,[],_::_,h,_=>h.elim
  |_,_,_,_::_,[],h,_=>h.elim
theorem Rel.grow{w':World}(h:Rel K β s a w)(e:Ext (λ_=>False) w w'):Rel K β s a w':=by
  have c:Ext (own K β s.H) w w':=e.weaken λ_ _ h=>h.elim;refine {h with ext:=h.ext.trans (e.weaken λ_ _ h=>h.elim),gI:=h.gI.ext h.ext.size e,fresh:= ?_,heap:= ?_,cu:= ?_}
  · intro id b d;exact⟨(h.fresh id b d).1,iU (h.fresh id b d).2 e.size⟩
  · intro id k l;obtain⟨m,n⟩:=h.heap id k l;exact⟨m,n.mono c (λ_ _ h=>h) (cN.refl _) (λ_ h=>h) (lQ e) λb d=>e.keep b (h.fresh id b d).2 λh=>h⟩
  · intro i;exact(h.cu i).mono c (λ_ _ h=>h) (cN.refl _) (lQ e)
theorem dj.call{o:Oper}{f:FuncId}{d:Func}{c:Array Operand}{k:Array TypeId}{vals:List V}{r:V}
    (z:o.op= .call {callee:= .value (.func f),args:=c,argTypes:=k}) (A:K.P.funcs[f]? =some d) (B:(d.name== "runtime.NumGoroutine")=false) (q:d.body.isNone=false)
    (C: ∀i,o.dst=some i->Nat.blt i K.nt=true) (D:ez (c.toList.map s.get) vals) (F:e7 e6 vals=true) (h:yG K.P K.G f vals r):dj K o s (s.put o.dst r):=by
  intro v a w next Q m L
  have x:d.name≠ "runtime.NumGoroutine" :=by simpa using B
  have y:d.body≠none:=by intro e;simp[e] at q
  have n:(execOp a.eval o).run K.P w= .ok (.enter f (c.map a.eval)) w:=by
    simp[execOp,z,resolve,Deferred.ofValue,Act.eval,invoke,callFunc,A,x,y]
  unfold Oper.wp;rw[n,Oper.upon_enter];have l:=(cI.le (m.k6 c.toList) D).BM F;have R: ∀b,own K v s.H b->b<w.heap.size:=by
    rintro b (W|⟨id,_,q⟩)
    · exact iU (m.gy b W).1 m.ext.size
    · exact(m.fresh id b q).2
  have bl:=h w (own K v s.H) _ m.vB R l;have X:(List.map a.eval c.toList).toArray=c.map a.eval:=by rw[<-q9]
  rw[X] at bl;refine bl.mono ?_;rintro e g ⟨u,rfl,p,j⟩;exact L v _ g ((m.grow p).put o.dst C (j.any λ_ h=>h))
def rl:List V->Nat->(Nat->V)
  | [],_=>m6
  |v::a,i=>aE (rl a (i+1)) i v
theorem B8{W:Map}{w:World}{X:Nat->Prop}: ∀(a:List V) (b:List Value) (i:Nat),cI W w X a b-> ∀j,aS W w X (rl a i (i+j)) (b.getD j undef)
  | [],_,_,_,_=> .ct _
  |v::a,u::b,i,h,0=>by
    rw[nH,rl,bu];exact h.1
  |v::a,u::b,i,h,j+1=>by
    rw[rl,bx _ _ _ _ O,show i+(j+1)=(i+1)+j by omega];simpa using B8 a b (i+1) h.2 j
  |_::_,[],_,h,_=>h.elim
theorem cI.length: ∀{β:Map} {w:World} {X:Nat->Prop} {vs:List V} {a:List Value},cI β w X vs a->a.length=vs.length
  |_,_,_,[],[],_=>rfl
  |_,_,_,_::_,_::_,h=>by simp[cI.length h.2]
  |_,_,_,[],_::_,h=>h.elim
  |_,_,_,_::_,[],h=>h.elim
def Ctx.pure(P:Program)(G:ef)(w:World)(X:Nat->Prop)(nt:Nat):Ctx:={P,G,w0:=w,X,cE:=0,gd:=d7,nt}
def start(args:List V):S:={t:=rl args 0,H:=j9,u:=e6}
theorem Rel.start{G:ef}{nt:Nat}{args:List V}{a:List Value}(e:G.ok w)(k: ∀b,X b->b<w.heap.size)(h:cI d7 w X args a)(n:a.length<=nt):
    Rel (Ctx.pure P G w X nt) d7 (Lift.start args) {tmps:=a.toArray++Array.replicate (nt-a.toArray.size) undef,defers:=[]} w:=by
  have d: ∀b,¬(Ctx.pure P G w X nt).M b:=by rintro b ⟨id,h,_⟩;simp[Ctx.pure] at h
  refine {ext:=Ext.refl _ _,k7:=e,lp:=λb h=>a7 h (d b),gy:=λb h=>⟨k b h,d b⟩,base:=ia.refl _ _ _,gI:=Shaped.refl _ _,low:=λ_ h=>a7 h (lA _),cW:=λ_ _=>rfl,
           du:=λ_ _ _ h=>h,mX:=λ_ _ _ h=>(l7 h).elim,inj:=λ_ _ _ h=>(l7 h).elim,fresh:=λ_ _ h=>(l7 h).elim,heap:=λ_ _ h=>by simp[Lift.start,j9] at h,cu:= ?_,nt:= ?_,defers:=rfl}
  · intro i;have c:=B8 args a 0 h i;rw[dn] at c;have l:(a.toArray++Array.replicate (nt-a.toArray.size) undef).getD i undef=a.getD i undef:=by
      simp only[Array.getD_eq_getD_getElem?,List.getD_eq_getElem?_getD,Array.getElem?_append]
      grind
    simp only[l];refine c.mono (Ext.refl _ _) ?_ (cN.refl _) (Shaped.refl _ _);rintro b _ (m|⟨id,c,_⟩)
    · exact m
    · simp[Lift.start,j9] at c
  · simp[Ctx.pure];omega
end rules
end
set_option linter.unusedVariables false
set_option linter.unusedSimpArgs false
section
def bL(P:Program)(t:TypeId)(u:TypeDesc)(z:Value)(b a:Nat):Prop:=
 P.underlying t=some u/\ ∃i,P.info? t=some i/\i.zero=some z/\i.size=b/\i.bytes=a
variable {n b i L gen k:Nat}{a:Act}{v:V}{W β:Map}{X:Nat->Prop}{q:Option Nat}
theorem bL.of{P:Program}{t:TypeId}{u:TypeDesc}{z:Value}{bytes:Nat}(h:P.underlying t=some u)(a:(P.info? t).map (λi=>(i.zero,i.size,i.bytes))=some (some z,n,bytes)):bL P t u z n bytes:=by
 cases b:P.info? t with
 |none=>rw[b] at a;cases a
 |some i=>
  rw[b] at a;simp only[Option.map_some,Option.some.injEq,Prod.mk.injEq] at a;exact⟨h,i,b,a.1,a.2.1,a.2.2⟩
def iB:TypeDesc->Bool
 | .struct _=>true
 | .array _ _=>true
 |_=>false
section runs
variable {P:Program}{t:TypeId}{u:TypeDesc}{z:Value}{size bytes:Nat}(w:World)
theorem bL.wS(h:bL P t u z size bytes):(isAgg t).run P w= .ok (iB u) w:=by obtain⟨a,_⟩:=h;simp only[isAgg,Sem.run_bind,run_underlying a,Result.andThen_ok];cases u<;>rfl
theorem bL.run_sizeOf(h:bL P t u z size bytes):(sizeOf t).run P w= .ok size w:=by obtain⟨_,i,a,c,b,e⟩:=h;simp[sizeOf,typeInfo,a,b]
theorem bL.o8(h:bL P t u z size bytes):(zeroValue t).run P w= .ok z w:=by obtain⟨_,i,a,b,c,e⟩:=h;simp[zeroValue,typeInfo,a,b]
theorem bL.wT(h:bL P t u z size bytes)(b:iB u=false){a:Addr}{v:Value}(c:w.cell? a=some v):(loadVar t a).run P w= .ok v w:=by simp only[loadVar,Sem.run_bind,h.wS,Result.andThen_ok,b];simp[c]
theorem gQ(b o i:Nat):(⟨b,o,none⟩:Addr).add i=⟨b,o+i,none⟩:=by unfold Addr.add;split<;>simp_all
theorem bL.wU(h:bL P t u z size bytes)(a:iB u=true){o:Nat}{f:Nat->Value}(c: ∀j,j<size->w.cell? ⟨b,o+j,none⟩=some (f j)):
  (loadVar t ⟨b,o,none⟩).run P w= .ok (.agg ((List.range size).map f).toArray) w:=by simp only[loadVar,Sem.run_bind,h.wS,h.run_sizeOf,Result.andThen_ok,a,if_true];rw[run_loadCells w ⟨b,o,none⟩ size f λj e=>by rw[gQ];exact c j e];rfl
end runs
section kU
variable {P:Program}{H:Nat->Option E}{d:Option Tmp}{ty:TypeId}{pos:String}{af:Array Edge}{g:Option (Nat×Bool)}
variable {t:TypeId}{u:TypeDesc}{z:Value}{size bytes:Nat}
theorem o4{w:World}{u:Value}(h:aS W w X (.ref n i) u): ∃b,W n=some (some b,0)/\u= .pointer (some ⟨b,i,none⟩):=by cases h with|ref _ _ b a=>exact⟨b,a,rfl⟩
theorem lh{w:World}{u:Value}(h:aS W w X (.cd L gen n i k) u)(a:W L=some (q,gen)): ∃b,q=some b/\u= .pointer (some ⟨b,i*n+k,none⟩):=by
 cases h with
 |cd _ _ _ _ _ b e c=>rw[c] at a;cases a;exact⟨b,rfl,rfl⟩
 |iG _ _ _ _ _ _ l g m c e=>rw[c] at a;cases a;omega
theorem hq{w:World}{c:TypeId}{a:List (List T)}(h:b4 W w X n (.arr c gen i a)): ∃q,W n=some (q,gen):=by
 rcases h.2 with ⟨e,_⟩|⟨b,k,e,_⟩
 ·exact⟨_,e⟩
 exact⟨_,e⟩
theorem zt{w:World}{a:List T}{u:Value}(h:aS W w X (.aP a) u): ∃(b c:Nat) (f:Nat->Value),u= .pointer (some ⟨b,c,none⟩)/\b<w.heap.size/\ ¬X b/\
  (∀j,j<a.length->w.cell? ⟨b,c+j,none⟩=some (f j))/\ ∀(j:Nat) (x:T),a[j]? =some x->b9 w X x (f j):=by cases h with|aP _ b c f e i k l=>exact⟨b,c,f,rfl,e,i,k,l⟩
theorem Rn(x:Operand)(i a:Nat)(k:List V)(c:V)(p:bL P t u z size bytes)(q:iB u=false)(r:H i=some (.cells k))(m:k[a]? =some c):
  bK P H ⟨d,.load t x,ty,pos,af,g⟩ [.ref i a] c:=by
 intro G w X L v y;obtain⟨b,A,B⟩:=o4 y.1;obtain⟨Q,l,C,n,D,o,F⟩:=v i _ r;rw[A] at n;cases n;have h:a<k.length:=(bt.1 m).1;have e:w.cell? ⟨b,a,none⟩=some l[a]:=by simp[World.cell?,D,o,h]
 refine⟨l[a],?_,F a c l[a] m (by simp[o,h])⟩;simp[execOp,B,Instr.loadAt,Instr.sureAddr,p.wT w q e]
theorem Rm(x:Operand)(k a:Nat)(h:List V)(n:bL P t u z size bytes)(o:iB u=true)(p:H k=some (.cells h))(q:Nat.ble (a+size) h.length=true):
  bK P H ⟨d,.load t x,ty,pos,af,g⟩ [.ref k a] (.agg ((h.drop a).take size)):=by
 intro L w X Q r y;obtain⟨b,A,B⟩:=o4 y.1;obtain⟨R,l,C,m,D,W,f⟩:=r k _ p;rw[A] at m;cases m;have F:a+size<=h.length:=eb q;have e: ∀j,j<size->w.cell? ⟨b,a+j,none⟩=some (l.getD (a+j) undef):=λj I=>by
  have:a+j<l.size:=O
  simp[World.cell?,D,this]
 refine⟨_,by simp[execOp,B,Instr.loadAt,Instr.sureAddr,n.wU w o e];rfl,?_⟩;refine .agg _ _ b1 (λi c v G M=>?_)
 grind
theorem Nr(x:Operand)(c:T)(r:List T)(a:bL P t u z size bytes)(e:iB u=false):bK P H ⟨d,.load t x,ty,pos,af,g⟩ [.aP (c::r)] (.t c):=by intro o w X p q h;obtain⟨b,i,f,k,y,A,l,m⟩:=zt h.1;have n:=l 0 aV;refine⟨f 0,?_,.t _ _ (m 0 c aV)⟩;simp only[execOp,k,Instr.loadAt,Instr.sureAddr,Sem.run_bind,Sem.run_pure,Result.andThen_ok];rw[a.wT w e (v:=f 0) (by simpa using n)];rfl
theorem Nq(x:Operand)(h:List T)(n:bL P t u z size bytes)(o:iB u=true)(B:size<=h.length):
  bK P H ⟨d,.load t x,ty,pos,af,g⟩ [.aP h] (.agg ((h.take size).map .t)):=by
 intro C w X D F p;obtain⟨b,q,f,r,G,L,k,y⟩:=zt p.1;refine⟨.agg ((List.range size).map f).toArray,?_,.agg _ _ b1 λi c v a l=>?_⟩
 ·simp only[execOp,r,Instr.loadAt,Instr.sureAddr,Sem.run_bind,Sem.run_pure,Result.andThen_ok];rw[n.wU w o (f:=f) λj Q=>k j O];rfl
 have m:i<size:=by
  have:=(bt.1 a).1;simp at this;omega
 rw[dT,List.getElem?_take_of_lt m] at a;simp only[List.getElem?_toArray,List.getElem?_map,List.getElem?_range m,Option.map_some,Option.some.injEq] at l;cases e:h[i]? with
 |none=>rw[e] at a;simp at a
 |some A=>rw[e] at a;simp at a;rw[<-a,<-l];exact .t _ _ (y i A e)
theorem Lu(x:Operand)(m gen i a:Nat)(o:TypeId)(sz:Nat)(e:List (List T))(h:List T)(c:T)(D:bL P t u z size bytes)(F:iB u=false)(A:H m=some (.arr o gen sz e))(n:e[i]? =some h)(G:h[a]? =some c):
  bK P H ⟨d,.load t x,ty,pos,af,g⟩ [.cd m gen sz i a] (.t c):=by
 intro f w X j B L;obtain⟨q,C⟩:=hq (B m _ A);obtain⟨b,p,Q⟩:=lh L.1 C;subst p;have aQ:=C;rcases(B m _ A).2 with ⟨r,v⟩|⟨I,y,r,v,M,N,R⟩
 ·rw[v] at n;simp at n
 rw[aQ] at r;cases r;have W:i<e.length:=(bt.1 n).1;have U:a<sz:=by
  grind
 have l:i*sz+a<y.size:=by
  have:(i+1)*sz<=e.length*sz:=dq _ W
  grind
 have k:w.cell? ⟨b,i*sz+a,none⟩=some y[i*sz+a]:=by simp[World.cell?,v,l]
 refine⟨y[i*sz+a],?_,.t _ _ (R i a h c _ n G (by simp[l]))⟩;simp[execOp,Q,Instr.loadAt,Instr.sureAddr,D.wT w F k]
theorem Mi(x:Operand)(o c k a:Nat)(p:Array Field)(e:Field)(q:TypeDesc)(r:Value)(h l:Nat)(v:P.underlying t=some (.struct p))(y:p[k]? =some e)(A:e.offset=a)(m:bL P e.type q r h l)(n:(h==0)=false):
  bK P H ⟨d,.fieldAddr t x k,ty,pos,af,g⟩ [.ref o c] (.ref o (c+a)):=by
 intro F w X G L B;obtain⟨b,C,D⟩:=o4 B.1;have i:h≠0:=by simpa using n
 refine⟨.pointer (some ⟨b,c+a,none⟩),?_,.ref _ _ _ C⟩;simp[execOp,D,Instr.fieldAt,run_underlying v,y,Instr.sureAddr,fieldPlace,m.run_sizeOf,i,gQ,A]
theorem Nu(x:Operand)(r:List T)(k a:Nat)(v:Array Field)(e:Field)(y:TypeDesc)(A:Value)(i n:Nat)(B:P.underlying t=some (.struct v))(C:v[k]? =some e)(D:e.offset=a)(o:bL P e.type y A i n)(p:(i==0)=false):
  bK P H ⟨d,.fieldAddr t x k,ty,pos,af,g⟩ [.aP r] (.aP (r.drop a)):=by
 intro I w X M N F;have l:i≠0:=by simpa using p
 obtain⟨b,m,f,G,L,Q,q,R⟩:=zt F.1;refine⟨.pointer (some ⟨b,m+a,none⟩),?_,.aP _ b (m+a) (λj=>f (a+j)) L Q (λj W=>?_) λj c h=>?_⟩
 ·simp[execOp,G,Instr.fieldAt,run_underlying B,C,Instr.sureAddr,fieldPlace,o.run_sizeOf,l,gQ,D]
 ·rw[nG];exact q (a+j) (by simp at W;omega)
 exact R (a+j) c (by simpa using h)
theorem Lw(x:Operand)(l gen o i c k a:Nat)(B:Array Field)(e:Field)(G:TypeDesc)(L:Value)(h p:Nat)(Q:P.underlying t=some (.struct B))(R:B[k]? =some e)(W:e.offset=a)(r:bL P e.type G L h p)(v:(h==0)=false)
  (y:TypeId) (m:List (List T)) (C:H l=some (.arr y gen o m)):bK P H ⟨d,.fieldAddr t x k,ty,pos,af,g⟩ [.cd l gen o i c] (.cd l gen o i (c+a)):=by
 intro I w X M D f;obtain⟨q,F⟩:=hq (D l _ C);obtain⟨b,A,j⟩:=lh f.1 F;subst A;have aQ:=F;have n:h≠0:=by simpa using v
 refine⟨.pointer (some ⟨b,i*o+(c+a),none⟩),?_,.cd _ _ _ _ _ _ (D l _ C).1 aQ⟩;simp[execOp,j,Instr.fieldAt,run_underlying Q,R,Instr.sureAddr,fieldPlace,r.run_sizeOf,n,gQ,W,Nat.add_assoc]
theorem Nt(x y:Operand)(e:TypeId)(k:List (List T))(l:List T)(n:Nat)(C:P.underlying t=some (.slice e))(D:bL P e u z size bytes)(o:k[n]? =some l)(F:l.length=size):
  bK P H ⟨d,.indexAddr t x y,ty,pos,af,g⟩ [.t (.aa k),.t (.int .i64 (n:Nat))] (.aP l):=by
 intro N w X G U A;have cn:=cY A.2.1;have L:n<k.length:=(bt.1 o).1;cases A.1 with
 |t _ _ h=>
  generalize Q:G x=v at h;cases h with
  |eH a p=>simp at o
  |aa _ b m i p f R W B q I r=>
   have M:i=size:=by rw[<-F];exact(q l (bA o)).symm
   subst M;refine⟨.pointer (some ⟨b,m+n*i,none⟩),?_,.aP _ b (m+n*i) (λj=>f n j) R W (λj V=>I n j L O) λj c h=>r n j l c o h⟩;simp[execOp,Q,cn,Instr.indexAt,asIntOf,run_underlying C,D.run_sizeOf,gQ];intro h;omega
theorem ei{w:World}{m:Nat}{u:Value}(h:aS W w X (.aN m gen i k L) u)(c:W m=some (q,gen)):
  (∃a b n ty,u= .slice (some ⟨b,k*i,none⟩) L a/\q=some b/\b<w.heap.size/\w.shape? b=some (ty,n)/\(k+a)*i=n/\L<=a/\a<=maxLen)\/
  (q=none/\k=0/\L=0/\u= .slice none 0 0):=by
 cases h with
 |aN _ _ _ _ _ a b n ty l e o p r v x=>rw[e] at c;cases c;exact .inl ⟨a,b,n,ty,rfl,rfl,o,p,r,v,x⟩
 |fB _ _ _ l e=>rw[e] at c;cases c;exact .inr ⟨rfl,rfl,rfl,rfl⟩
 |hW _ _ _ _ _ _ y g A e l=>rw[e] at c;cases c;omega
theorem Mg(x y:Operand)(e:TypeId)(c gen a h n:Nat)(l:TypeId)(i:List (List T))(r:H c=some (.arr l gen size i))(D:P.underlying t=some (.slice e))(F:bL P e u z size bytes)(W:n<h):
  bK P H ⟨d,.indexAddr t x y,ty,pos,af,g⟩ [.aN c gen size a h,.t (.int .i64 (n:Nat))] (.cd c gen size (a+n) 0):=by
 intro f w X G A o;have cn:=cY o.2.1;generalize B:G x=v at o;have k:=o.1;simp only[B] at k;obtain⟨q,C⟩:=hq (A c _ r);rcases ei k C with ⟨L,b,m,Q,rfl,p,j,I,R,M,N⟩|⟨_,_,U,_⟩
 ·subst p;refine⟨.pointer (some ⟨b,(a+n)*size+0,none⟩),?_,.cd _ _ _ _ _ b (A c _ r).1 C⟩;simp[execOp,B,cn,Instr.indexAt,asIntOf,run_underlying D,F.run_sizeOf,gQ,Nat.add_mul]
  grind
 omega
end kU
def V.one:V->Bool
 | .t _=>true
 | .ref _ _=>true
 | .aP _=>true
 | .aN _ _ _ _ _=>true
 | .cd _ _ _ _ _=>true
 | .fn _ _=>true
 | .agg _=>false
 | .bG _=>false
 | .ct=>false
def kP:List V->Bool
 | []=>true
 |v::a=>v.one&&kP a
theorem w4: ∀{b:List V} {i:Nat} {v:V},kP b=true->b[i]? =some v->v.one=true
 |v::b,0,_,h,a=>by simp at a;subst a;simp[kP] at h;exact h.1
 |v::b,i+1,_,h,a=>by simp at a;simp[kP] at h;exact w4 h.2 a
 | [],_,_,_,a=>by simp at a
def V.cs:V->List V
 | .agg cs=>cs
 |v=>[v]
def V.val:V->Bool
 | .agg _=>true
 |v=>v.one
theorem aS.gX{w:World}{u:Value}(h:aS β w X v u)(a:v.one=true):u.oneCell'=true:=by
 cases h with
 |t x v h=>cases h<;>rfl
 |agg=>cases a
 |bG=>cases a
 |ref=>rfl
 |aP=>rfl
 |aN=>rfl
 |fB=>rfl
 |hW=>assumption
 |cd=>rfl
 |iG=>assumption
 |fn=>rfl
 |ct=>cases a
theorem qP{u:Value}(h:u.oneCell'=true):u.cells= #[u]:=by cases u<;>first|rfl|cases h
theorem aS.cells{w:World}{u:Value}(h:aS β w X v u)(m:v.val=true):
  u.cells.size=v.cs.length/\ ∀(i:Nat) c x,v.cs[i]? =some c->u.cells[i]? =some x->aS β w X c x:=by
 cases v with
 |agg cs=>
  cases h with|agg _ p o h=>exact⟨o,h⟩
 |bG=>cases m
 |ct=>cases m
 |t x=>
  have:=qP (h.gX rfl);rw[this];exact⟨rfl,λi c y k l=>by cases i with|zero=>simp[V.cs] at k l;subst k;subst l;exact h|succ n=>simp[V.cs] at k⟩
 |ref a b=>
  have:=qP (h.gX rfl);rw[this];exact⟨rfl,λi c y k l=>by cases i with|zero=>simp[V.cs] at k l;subst k;subst l;exact h|succ n=>simp[V.cs] at k⟩
 |aP a=>
  have:=qP (h.gX rfl);rw[this];exact⟨rfl,λi c y k l=>by cases i with|zero=>simp[V.cs] at k l;subst k;subst l;exact h|succ n=>simp[V.cs] at k⟩
 |aN a b c d e=>
  have:=qP (h.gX rfl);rw[this];exact⟨rfl,λi c y k l=>by cases i with|zero=>simp[V.cs] at k l;subst k;subst l;exact h|succ n=>simp[V.cs] at k⟩
 |cd a b c d e=>
  have:=qP (h.gX rfl);rw[this];exact⟨rfl,λi c y k l=>by cases i with|zero=>simp[V.cs] at k l;subst k;subst l;exact h|succ n=>simp[V.cs] at k⟩
 |fn a b=>
  have:=qP (h.gX rfl);rw[this];exact⟨rfl,λi c y k l=>by cases i with|zero=>simp[V.cs] at k l;subst k;subst l;exact h|succ n=>simp[V.cs] at k⟩
def S.new(s:S)(k:Nat)(e:E):S:={t:=s.t,H:=aE s.H k (some e),u:=aE s.u k true}
theorem Rel.BL{K:Ctx}{s:S}{w:World}(h:Rel K β s a w)(k y:Nat)(R:s.u k=false)(W:Array Value)(f:TypeId)(e:E)
  (U: ∀(p:Map) (N:Nat->Prop) (j:World),j=w.alloc (.cells W f)->p k=some (some w.heap.size,y)->(∀v u,aS β w (own K β s.H) v u->aS p j N v u)->(∀b,¬p.n k b)->b4 p j N k e):
  Rel K (β.put k (some (some w.heap.size,y))) (s.new k e) a (w.alloc (.cells W f)):=by
 have l: ∀X,Ext X w (w.alloc (.cells W f)):=λX=>Ext.alloc X w _;have A:β k=none:=h.cW _ R;have q: ∀id x,β id=some x->β.put k (some (some w.heap.size,y)) id=some x:=λid x F=>by
  rw[dK _ _ _ _ (by intro e;subst e;rw[A] at F;cases F)];exact F
 have G:=cN.of q;have m: ∀id b,At (β.put k (some (some w.heap.size,y))) id b->(id=k/\b=w.heap.size)\/(id≠k/\At β id b):=λid b aQ=>by
  by_cases B:id=k
  ·subst B;rcases aQ with ⟨g,aQ⟩|aQ
   ·rw[iF] at aQ;cases aQ;exact .inl ⟨rfl,rfl⟩
   exact a7 aQ (h.du _ _ R)
  refine .inr ⟨B,?_⟩;rcases aQ with ⟨g,aQ⟩|aQ
  ·rw[dK _ _ _ _ B] at aQ;exact .inl ⟨g,aQ⟩
  exact .inr aQ
 have r: ∀b,b<w.heap.size->own K (β.put k (some (some w.heap.size,y))) (aE s.H k (some e)) b->own K β s.H b:=by
  rintro b V (F|⟨id,D,L⟩)
  ·exact .inl F
  rcases m id b L with ⟨rfl,rfl⟩|⟨I,C⟩
  ·omega
  rw[bx _ _ _ _ I] at D;exact .inr ⟨id,D,C⟩
 have Q: ∀v u,aS β w (own K β s.H) v u->aS (β.put k (some (some w.heap.size,y))) (w.alloc (.cells W f)) (own K (β.put k (some (some w.heap.size,y))) (aE s.H k (some e))) v u:=
  λv u Y=>Y.mono (l _) r G (lQ (l _))
 refine {ext:=h.ext.trans ((l λ_=>False).weaken λ_ _ h=>h.elim),k7:=h.k7,lp:=h.lp,gy:=h.gy,mX:=h.mX,base:= ?_,gI:=h.gI.ext h.ext.size (l _),low:= ?_,cW:= ?_,du:= ?_,inj:= ?_,fresh:= ?_,heap:= ?_,cu:=λi=>Q _ _ (h.cu i),nt:=h.nt,defers:=h.defers}
 ·refine h.base.keep λid hid=>?_
  have:=h.low id hid;rw[dK _ _ _ _ (by intro e;subst e;rw[R] at this;cases this)]
 ·intro id hid;show aE s.u k true id=true;by_cases e:id=k
  ·subst e;exact bu _ _ _
  rw[bx _ _ _ _ e];exact h.low id hid
 ·intro id hid;have c:aE s.u k true id=false:=hid;by_cases e:id=k
  ·subst e;rw[bu] at c;cases c
  rw[bx _ _ _ _ e] at c;rw[dK _ _ _ _ e];exact h.cW id c
 ·intro id b hid;have c:aE s.u k true id=false:=hid;by_cases e:id=k
  ·subst e;rw[bu] at c;cases c
  rw[bx _ _ _ _ e] at c;exact h.du id b c
 ·intro id M b D L;rcases m id b D with ⟨rfl,rfl⟩|⟨_,C⟩<;>rcases m M _ L with ⟨rfl,e⟩|⟨_,T⟩
  ·rfl
  ·have:=(h.fresh _ _ T).2;omega
  ·subst e;have:=(h.fresh _ _ C).2;omega
  exact h.inj _ _ _ C T
 ·intro id b aQ;rcases m id b aQ with ⟨rfl,rfl⟩|⟨_,C⟩
  ·exact⟨.inr h.ext.size,aV⟩
  exact⟨(h.fresh _ _ C).1,by have:=(h.fresh _ _ C).2;simp;omega⟩
 intro id e' o;have o:aE s.H k (some e) id=some e':=o;show aE s.u k true id=true/\b4 _ _ (own K _ (aE s.H k (some e))) id e';by_cases B:id=k
 ·subst B;rw[bu] at o;cases o;exact⟨bu _ _ _,U _ _ _ rfl (iF _ _ _) Q λb=>h.du _ b R⟩
 rw[bx _ _ _ _ B] at o;obtain⟨D,L⟩:=h.heap id e' o;exact⟨by rw[bx _ _ _ _ B];exact D,L.mono (l _) r G (q id) (lQ (l _)) λb aQ=>th _ _ _ (h.fresh id b aQ).2⟩
theorem Rel.new{K:Ctx}{s:S}{w:World}(h:Rel K β s a w)(k l:Nat)(o:s.u k=false)(m:Array Value)(n:TypeId)(e:E)
  (p: ∀(b:Map) (i:Nat->Prop) (c:World),c=w.alloc (.cells m n)->b k=some (some w.heap.size,l)->(∀v u,aS β w (own K β s.H) v u->aS b c i v u)->b4 b c i k e):
  Rel K (β.put k (some (some w.heap.size,l))) (s.new k e) a (w.alloc (.cells m n)):=
 h.BL k l o m n e λb i c q r x _=>p b i c q r x
theorem Rel.wg{K:Ctx}{s:S}{w:World}(h:Rel K β s a w)(k:Nat)(n:s.u k=false)(b:Array Value)(e:TypeId)(l:List V)(o:b.size=l.length)
  (p: ∀(i:Nat) c u,l[i]? =some c->b[i]? =some u->aS β w (own K β s.H) c u):
  Rel K (β.put k (some (some w.heap.size,0))) (s.new k (.cells l)) a (w.alloc (.cells b e)):=
 h.new k 0 n b e _ λq A B r v m=>⟨w.heap.size,b,e,v,by subst r;exact ie _ _,o,λi c u x y=>m _ _ (p i c u x y)⟩
section ops
variable {K:Ctx}{s:S}{d:Option Tmp}{ty:TypeId}{pos:String}{af:Array Edge}{g:Option (Nat×Bool)}
variable {t:TypeId}{u:TypeDesc}{z:Value}{size bytes:Nat}
theorem TJ(k:Nat)(c:s.u k=false)(x:Operand)(v:V)(h: ∀i,d=some i->Nat.blt i K.nt=true)(l:s.get x=v)(m:v.val=true):
  dj K ⟨d,.box t x,ty,pos,af,g⟩ s ((s.new k (.cells v.cs)).put d (.ref k 0)):=by
 intro q a w next Q e n
 subst l;obtain⟨o,p⟩:=(e.get x).cells m;unfold Oper.wp;have b:(execOp a.eval ⟨d,.box t x,ty,pos,af,g⟩).run K.P w= .ok (.value (.pointer (some ⟨w.heap.size,0,none⟩))) (w.alloc (.cells (a.eval x).cells t)):=by
  simp[execOp,Instr.box,newVar,newRow]
 rw[b];exact n _ _ _ ((e.wg k c _ t _ o p).put d h (.ref _ _ _ (bu _ _ _)))
theorem RW(k:Nat)(c:s.u k=false)(h: ∀i,d=some i->Nat.blt i K.nt=true)(l:bL K.P t u z size bytes)(m:(fv z).val=true):
  dj K ⟨d,.alloc t,ty,pos,af,g⟩ s ((s.new k (.cells (fv z).cs)).put d (.ref k 0)):=by
 intro e a w next Q n o
 obtain⟨p,q⟩:=(tb e w (own K e s.H) z).cells m;unfold Oper.wp;have b:(execOp a.eval ⟨d,.alloc t,ty,pos,af,g⟩).run K.P w= .ok (.value (.pointer (some ⟨w.heap.size,0,none⟩))) (w.alloc (.cells z.cells t)):=by
  simp[execOp,Instr.alloc,l.o8,newVar,newRow]
 rw[b];exact o _ _ _ ((n.wg k c _ t _ p q).put d h (.ref _ _ _ (bu _ _ _)))
def kh(b:List V)(a:Nat)(c:List V):List V:=b.take a++c++b.drop (a+c.length)
theorem wI{w:World}{a c:Array Value}{e:TypeId}(l:w.heap[b]? =some (.cells a e (0,0)))(i:c.size=a.size)(k:Nat):(w.setRow b c).shape? k=w.shape? k:=by
 by_cases h:k=b
 ·subst h;unfold World.shape?;rw[setRow_heap _ _ _ _ _ _ l,l];simp[i]
 exact oA (setRow_other _ _ _ _ h)
theorem Rel.setRow{K:Ctx}{s:S}{w:World}(h:Rel K β s a w)(m b:Nat)(L:At β m b)(y:Array Value)(I:TypeId)(Q:w.heap[b]? =some (.cells y I (0,0)))(q:Array Value)(A:q.size=y.size)(e:E)(R:s.H m≠none)
  (N:b4 β (w.setRow b q) (own K β s.H) m e):Rel K β {s with H:=aE s.H m (some e)} a (w.setRow b q):=by
 have r:own K β s.H b:= .inr ⟨m,R,L⟩;have p:Ext (own K β s.H) w (w.setRow b q):=⟨rfl,rfl,rfl,aV,λk _ D=>setRow_other _ _ _ _ λe=>D (e▸r)⟩
 have B:Shaped β w (w.setRow b q):=by
  intro l _;by_cases C:l=b
  ·subst C;unfold World.shape?;rw[setRow_heap _ _ _ _ _ _ Q,Q];simp[A]
  exact oA (setRow_other _ _ _ _ C)
 have o: ∀l,own K β (aE s.H m (some e)) l->own K β s.H l:=by
  rintro l (D|⟨c,F,G⟩)
  ·exact .inl D
  by_cases x:c=m
  ·subst x;exact .inr ⟨c,R,G⟩
  rw[bx _ _ _ _ x] at F;exact .inr ⟨c,F,G⟩
 have W: ∀v u,aS β w (own K β s.H) v u->aS β (w.setRow b q) (own K β (aE s.H m (some e))) v u:=λv u T=>T.mono p (λl _=>o l) (cN.refl _) B;have Y:K.M b\/K.w0.heap.size<=b:=(h.fresh m b L).1;refine {h with ext:=h.ext.trans' ⟨rfl,rfl,rfl,aV,λk hk D=>setRow_other _ _ _ _ ?_⟩,gI:=λl U=>(wI Q A l).trans (h.gI l U),fresh:= ?_,heap:= ?_,cu:=λi=>W _ _ (h.cu i)}
 ·intro e
  grind
 ·intro c l f;exact⟨(h.fresh c l f).1,by have:=(h.fresh c l f).2;simpa using this⟩
 intro c e' n;have n:aE s.H m (some e) c=some e':=n;show s.u c=true/\b4 β (w.setRow b q) (own K β (aE s.H m (some e))) c e';by_cases x:c=m
 ·subst x;rw[bu] at n;cases n;cases j:s.H c with
  |none=>exact a7 j R
  |some V=>
   exact⟨(h.heap c V j).1,N.mono (Ext.refl _ _) (λl _=>o l) (cN.refl _) (λ_ h=>h) (Shaped.refl _ _) λ_ _=>rfl⟩
 rw[bx _ _ _ _ x] at n;obtain⟨F,G⟩:=h.heap c e' n;exact⟨F,G.mono p (λl _=>o l) (cN.refl _) (λ_ h=>h) B λl X=>setRow_other _ _ _ _ λe=>x (h.inj c m l X (e▸L))⟩
theorem Dm(b e:List V)(a:Nat)(h:a+e.length<=b.length)(k l:List Value)(o:k.length=b.length)(p:l.length=e.length){R:V->Value->Prop}
  (q: ∀(i:Nat) c u,b[i]? =some c->k[i]? =some u->R c u) (r: ∀(i:Nat) c u,e[i]? =some c->l[i]? =some u->R c u):
  ∀(i:Nat) c u,(kh b a e)[i]? =some c->(k.take a++l++k.drop (a+l.length))[i]? =some u->R c u:=by
 intro i c u n m;simp only[kh,List.getElem?_append,List.length_append,List.length_take,List.getElem?_take,List.getElem?_drop] at n m
 grind
theorem m4{P:Program}(h:bL P t u z size bytes)(w:World)(b o:Nat)(a:Array Value)(c:TypeId)(v:Value)(i:w.heap[b]? =some (.cells a c (0,0)))
  (e:v.cells.size=size) (l:o+size<=a.size) (k: ∀x∈v.cells.toList,x.oneCell'=true):
  (storeVar t ⟨b,o,none⟩ v).run P w= .ok () (w.setRow b (a.toList.take o++v.cells.toList++a.toList.drop (o+v.cells.toList.length)).toArray):=by
 have:=run_storeCells_at P b o c v.cells.toList 0 a w i (by simp[e];omega) k;simp only[storeVar,Sem.run_bind,h.run_sizeOf,Result.andThen_ok,e,ne_eq,not_true,if_false]
 grind
theorem RU(x y:Operand)(r l:Nat)(A:List V)(v:V)(j:s.get x= .ref r l)(hy:s.get y=v)(I:s.H r=some (.cells A))(eV:bL K.P t u z size bytes)
  (M:v.val=true) (dG:kP v.cs=true) (hs:Nat.beq v.cs.length size=true) (ch:Nat.ble (l+size) A.length=true):
  dj K ⟨none,.store t x y,ty,pos,af,g⟩ s {s with H:=aE s.H r (some (.cells (kh A l v.cs)))}:=by
 intro B a w next Q X hk
 subst hy;have C:=X.get x;rw[j] at C;obtain⟨b,f,N⟩:=o4 C;obtain⟨e4,m,o,h1,D,h3,h4⟩:=(X.heap r _ I).2;rw[f] at h1;cases h1;obtain⟨T,c2⟩:=(X.get y).cells M;have U:(a.eval y).cells.size=size:=by rw[T];exact ca hs
 have hle:l+size<=A.length:=eb ch;have F: ∀e∈(a.eval y).cells.toList,e.oneCell'=true:=by
  intro e he;obtain⟨i,aD⟩:=hz.1 he;have G:(a.eval y).cells[i]? =some e:=by simpa using aD
  have L:i<(s.get y).cs.length:=by rw[<-T];exact(gw.1 G).1
  exact(c2 i _ e (bh L) G).gX (w4 dG (bh L))
 unfold Oper.wp;have R:=m4 eV w b l m o (a.eval y) D U O F;have p:(execOp a.eval ⟨none,.store t x y,ty,pos,af,g⟩).run K.P w= .ok .skip (w.setRow b (m.toList.take l++(a.eval y).cells.toList++m.toList.drop (l+(a.eval y).cells.toList.length)).toArray):=by
  simp only[execOp,N,Instr.storeAt,Instr.sureAddr,Sem.run_bind,Sem.run_pure,Result.andThen_ok,R]
 rw[p];have n:(m.toList.take l++(a.eval y).cells.toList++m.toList.drop (l+(a.eval y).cells.toList.length)).length=m.size:=by
  grind
 refine hk B _ _ (Rel.setRow X r b (.inl ⟨_,f⟩) m o D _ (by simpa using n) (.cells (kh A l (s.get y).cs)) (by rw[I];simp) ?_);refine⟨b,_,o,f,setRow_heap _ _ _ _ _ _ D,?_,?_⟩
 ·simp only[List.size_toArray,n,h3];simp[kh]
  grind
 intro i c e bl he;have Y:own K B s.H b:= .inr ⟨r,by rw[I];simp,.inl ⟨_,f⟩⟩;have q: ∀v u,aS B w (own K B s.H) v u->aS B (w.setRow b (m.toList.take l++(a.eval y).cells.toList++m.toList.drop (l+(a.eval y).cells.toList.length)).toArray) (own K B s.H) v u:=by
  intro v u M;refine M.mono ⟨rfl,rfl,rfl,aV,λk _ j=>setRow_other _ _ _ _ λe=>j (e▸Y)⟩ (λ_ _ h=>h) (cN.refl _) ?_;intro e4 _;by_cases W:e4=b
  ·subst W;unfold World.shape?;rw[setRow_heap _ _ _ _ _ _ D,D]
   grind
  exact oA (setRow_other _ _ _ _ W)
 refine q _ _ (Dm A (s.get y).cs l (by have:=ca hs;omega) m.toList (a.eval y).cells.toList (by simpa using h3) (by simpa using T) (λi c u h5 h6=>h4 i c u h5 (by simpa using h6)) (λi c u h5 h6=>c2 i c u h5 (by simpa using h6)) i c e bl ?_)
 grind
end ops
end
section kU
variable {P:Program}{H:Nat->Option E}{d:Option Tmp}{ty:TypeId}{pos:String}{af:Array Edge}{g:Option (Nat×Bool)}
variable {t:TypeId}{u:TypeDesc}{z:Value}{size bytes:Nat}
theorem SZ(x y:Operand)(t b:TypeId)(k:IntKind)(m n:Int):bK P H ⟨d,.binOp .sub t x y b,ty,pos,af,g⟩ [.t (.int k m),.t (.int k n)] (.t (.int k (k.wrap (m-n)))):=by intro c w X e _ a;refine⟨.int k (k.wrap (m-n)),?_,.t _ _ (.int _ _)⟩;simp[execOp,cY a.1,cY a.2.1,eqGuard,binOp,Op.intArith]
theorem S6(x y:Operand)(t b:TypeId)(k:IntKind)(m n:Int):bK P H ⟨d,.binOp .mul t x y b,ty,pos,af,g⟩ [.t (.int k m),.t (.int k n)] (.t (.int k (k.wrap (m*n)))):=by intro c w X e _ a;refine⟨.int k (k.wrap (m*n)),?_,.t _ _ (.int _ _)⟩;simp[execOp,cY a.1,cY a.2.1,eqGuard,binOp,Op.intArith]
theorem S2(x y:Operand)(t b:TypeId)(k:IntKind)(m n:Int)(h:n≠0):bK P H ⟨d,.binOp .quo t x y b,ty,pos,af,g⟩ [.t (.int k m),.t (.int k n)] (.t (.int k (k.wrap (m.tdiv n)))):=by intro c w X e _ a;refine⟨.int k (k.wrap (m.tdiv n)),?_,.t _ _ (.int _ _)⟩;simp[execOp,cY a.1,cY a.2.1,eqGuard,binOp,Op.intDiv,h]
theorem S1(x y:Operand)(t b:TypeId)(k:IntKind)(m n:Int)(h:n≠0):bK P H ⟨d,.binOp .rem t x y b,ty,pos,af,g⟩ [.t (.int k m),.t (.int k n)] (.t (.int k (m.tmod n))):=by intro c w X e _ a;refine⟨.int k (m.tmod n),?_,.t _ _ (.int _ _)⟩;simp[execOp,cY a.1,cY a.2.1,eqGuard,binOp,Op.intDiv,h]
theorem Tc(x y:Operand)(t b:TypeId)(k:IntKind)(m n:Int):bK P H ⟨d,.binOp .eql t x y b,ty,pos,af,g⟩ [.t (.int k m),.t (.int k n)] (.t (.bool (decide (m=n)))):=by intro c w X e _ a;refine⟨.bool (decide (m=n)),?_,.t _ _ (.bool _)⟩;simp[execOp,cY a.1,cY a.2.1,eqGuard,binOp,Op.intCmp];rfl
theorem S4(x y:Operand)(t b:TypeId)(k:IntKind)(m n:Int):bK P H ⟨d,.binOp .neq t x y b,ty,pos,af,g⟩ [.t (.int k m),.t (.int k n)] (.t (.bool (!decide (m=n)))):=by intro c w X e _ a;refine⟨.bool (!decide (m=n)),?_,.t _ _ (.bool _)⟩;simp[execOp,cY a.1,cY a.2.1,eqGuard,binOp,Op.intCmp];rfl
theorem S9(x y:Operand)(t b:TypeId)(k:IntKind)(m n:Int):bK P H ⟨d,.binOp .lss t x y b,ty,pos,af,g⟩ [.t (.int k m),.t (.int k n)] (.t (.bool (decide (m<n)))):=by intro c w X e _ a;refine⟨.bool (decide (m<n)),?_,.t _ _ (.bool _)⟩;simp[execOp,cY a.1,cY a.2.1,eqGuard,binOp,Op.intCmp]
theorem S'(x y:Operand)(t b:TypeId)(k:IntKind)(m n:Int):bK P H ⟨d,.binOp .leq t x y b,ty,pos,af,g⟩ [.t (.int k m),.t (.int k n)] (.t (.bool (decide (m<=n)))):=by intro c w X e _ a;refine⟨.bool (decide (m<=n)),?_,.t _ _ (.bool _)⟩;simp[execOp,cY a.1,cY a.2.1,eqGuard,binOp,Op.intCmp]
theorem Ta(x y:Operand)(t b:TypeId)(k:IntKind)(m n:Int):bK P H ⟨d,.binOp .gtr t x y b,ty,pos,af,g⟩ [.t (.int k m),.t (.int k n)] (.t (.bool (decide (n<m)))):=by intro c w X e _ a;refine⟨.bool (decide (n<m)),?_,.t _ _ (.bool _)⟩;simp[execOp,cY a.1,cY a.2.1,eqGuard,binOp,Op.intCmp]
theorem Tb(x y:Operand)(t b:TypeId)(k:IntKind)(m n:Int):bK P H ⟨d,.binOp .geq t x y b,ty,pos,af,g⟩ [.t (.int k m),.t (.int k n)] (.t (.bool (decide (n<=m)))):=by intro c w X e _ a;refine⟨.bool (decide (n<=m)),?_,.t _ _ (.bool _)⟩;simp[execOp,cY a.1,cY a.2.1,eqGuard,binOp,Op.intCmp]
theorem Td(x y:Operand)(t b:TypeId)(m n:List UInt8)(h:(m.length:Int)+n.length<=9223372036854775807):bK P H ⟨d,.binOp .add t x y b,ty,pos,af,g⟩ [.t (.str m),.t (.str n)] (.t (.str (m++n))):=by
 intro k w X l _ a;refine⟨.string ⟨(m++n).toArray⟩,?_,.t _ _ (.str _)⟩;have c:(ByteArray.mk m.toArray).size=m.length:=by simp[ByteArray.size]
 have e:(ByteArray.mk n.toArray).size=n.length:=by simp[ByteArray.size]
 have i:(ByteArray.mk m.toArray)++(ByteArray.mk n.toArray)=ByteArray.mk (m++n).toArray:=by
  apply ByteArray.ext;simp
 simp[execOp,fD a.1,fD a.2.1,eqGuard,binOp,Op.stringOp,c,e,i];exact h
theorem SI(x y:Operand)(t b:TypeId)(m n:List UInt8):bK P H ⟨d,.binOp .eql t x y b,ty,pos,af,g⟩ [.t (.str m),.t (.str n)] (.t (.bool (decide (m=n)))):=by
 intro c w X e _ a;refine⟨.bool (decide (m=n)),?_,.t _ _ (.bool _)⟩;simp[execOp,fD a.1,fD a.2.1,eqGuard,binOp,Op.stringOp]
 grind
theorem SD(x y:Operand)(t b:TypeId)(m n:List UInt8):bK P H ⟨d,.binOp .neq t x y b,ty,pos,af,g⟩ [.t (.str m),.t (.str n)] (.t (.bool (!decide (m=n)))):=by
 intro c w X e _ a;refine⟨.bool (!decide (m=n)),?_,.t _ _ (.bool _)⟩;simp[execOp,fD a.1,fD a.2.1,eqGuard,binOp,Op.stringOp]
 grind
theorem SH(x y:Operand)(t b:TypeId)(m n:List UInt8):bK P H ⟨d,.binOp .geq t x y b,ty,pos,af,g⟩ [.t (.str m),.t (.str n)] (.t (.bool (!Op.bytesLess m n))):=by intro c w X e _ a;refine⟨.bool (!Op.bytesLess m n),?_,.t _ _ (.bool _)⟩;simp[execOp,fD a.1,fD a.2.1,eqGuard,binOp,Op.stringOp]
theorem PH(x y:Operand)(l:List UInt8)(n:Nat)(b:UInt8)(e:P.underlying t=some .string)(h:l[n]? =some b):bK P H ⟨d,.index t x y,ty,pos,af,g⟩ [.t (.str l),.t (.int .i64 (n:Nat))] (.t (.int .u8 b.toNat)):=by
 intro k w X m _ c;refine⟨.int .u8 b.toNat,?_,.t _ _ (.int _ _)⟩;have i:(ByteArray.mk l.toArray)[n]? =some b:=by
  have a:=(bt.1 h).1;have bF:=(bt.1 h).2;rw[getElem?_pos _ _ (by simpa[ByteArray.size] using a)];simpa[ByteArray.getElem_eq_getElem_data] using bF
 simp[execOp,fD c.1,cY c.2.1,Instr.index,asIntOf,run_underlying e,i]
theorem S3(x:Operand)(t:TypeId)(b:Bool):bK P H ⟨d,.unOp .not t x,ty,pos,af,g⟩ [.t (.bool b)] (.t (.bool (!b))):=by intro c w X e _ a;refine⟨.bool (!b),?_,.t _ _ (.bool _)⟩;simp[execOp,kJ a.1,Op.unary]
theorem J9(w:World)(n:Nat)(a b:Bool)(c:P.underlying t=some .bool):(Op.equalIn (n+1) t (.bool a) (.bool b)).run P w= .ok (a==b) w:=by simp[Op.equalIn,run_underlying c]
theorem Jp(w:World)(a b:Bool)(c:P.underlying t=some .bool):(Op.equal t (.bool a) (.bool b)).run P w= .ok (a==b) w:=J9 w 9999 a b c
theorem NF(a b:Bool):binOp .eql t (.bool a) (.bool b)=(do pure (.bool (<-Op.equal t (.bool a) (.bool b)))):=rfl
theorem ND(a b:Bool):binOp .neq t (.bool a) (.bool b)=(do pure (.bool (!(<-Op.equal t (.bool a) (.bool b))))):=rfl
theorem SP(x y:Operand)(b:TypeId)(m n:Bool)(c:P.underlying t=some .bool):bK P H ⟨d,.binOp .eql t x y b,ty,pos,af,g⟩ [.t (.bool m),.t (.bool n)] (.t (.bool (m==n))):=by intro e w X h _ a;refine⟨.bool (m==n),?_,.t _ _ (.bool _)⟩;simp[execOp,kJ a.1,kJ a.2.1,eqGuard,NF,Jp w m n c]
theorem SO(x y:Operand)(b:TypeId)(m n:Bool)(c:P.underlying t=some .bool):bK P H ⟨d,.binOp .neq t x y b,ty,pos,af,g⟩ [.t (.bool m),.t (.bool n)] (.t (.bool (!(m==n)))):=by intro e w X h _ a;refine⟨.bool (!(m==n)),?_,.t _ _ (.bool _)⟩;simp[execOp,kJ a.1,kJ a.2.1,eqGuard,ND,Jp w m n c]
theorem FQ(x:Operand)(a b:TypeId)(k c:IntKind)(e:TypeDesc)(n:Int)(h:P.underlying a=some e)(i:P.underlying b=some (.int c)):bK P H ⟨d,.convert a b x,ty,pos,af,g⟩ [.t (.int k n)] (.t (.int c (c.wrap n))):=by intro m w X o _ l;refine⟨.int c (c.wrap n),?_,.t _ _ (.int _ _)⟩;simp only[execOp,cY l.1,convert,Sem.run_bind,run_underlying h,run_underlying i,Result.andThen_ok];cases e<;>simp[Conv.intToInt]
theorem OR(x:Operand)(l:List UInt8)(a:P.underlying t=some .string):bK P H ⟨d,.call {callee:= .builtin .len,args:= #[x],argTypes:= #[t]},ty,pos,af,g⟩ [.t (.str l)] (.t (.int .i64 (l.length:Nat))):=by
 intro i w X b _ c;refine⟨.int .i64 (l.length:Nat),?_,.t _ _ (.int _ _)⟩;have e:b x= .string ⟨l.toArray⟩:=fD c.1;have h:(ByteArray.mk l.toArray).size=l.length:=by simp[ByteArray.size]
 simp[execOp,resolve,invoke,builtin,e,Builtin.len_,run_underlying a,goInt,h]
theorem R'{W:Map}{w:World}{X:Nat->Prop}{c:List (List T)}{u:Value}(h:aS W w X (.t (.aa c)) u): ∃a cap,u= .slice a c.length cap:=by
 cases h with
 |t _ _ h=>cases h with
  |eH a cap=>exact⟨a,cap,rfl⟩
  |aa _ b e size cap=>exact⟨_,cap,rfl⟩
theorem PJ(x:Operand)(e:TypeId)(b:List (List T))(h:P.underlying t=some (.slice e)):bK P H ⟨d,.call {callee:= .builtin .len,args:= #[x],argTypes:= #[t]},ty,pos,af,g⟩ [.t (.aa b)] (.t (.int .i64 (b.length:Nat))):=by intro m w X i _ k;obtain⟨a,l,c⟩:=R' k.1;refine⟨.int .i64 (b.length:Nat),?_,.t _ _ (.int _ _)⟩;have c:i x=_:=c;simp[execOp,resolve,invoke,builtin,c,Builtin.len_,run_underlying h,goInt]
theorem OS(x:Operand)(e:TypeId)(n gen c i h:Nat)(r:P.underlying t=some (.slice e))(o:TypeId)(k:List (List T))(s:H n=some (.arr o gen c k)):bK P H ⟨d,.call {callee:= .builtin .len,args:= #[x],argTypes:= #[t]},ty,pos,af,g⟩ [.aN n gen c i h] (.t (.int .i64 (h:Nat))):=by
 intro v w X p y A;obtain⟨a,cap,l⟩: ∃a cap,p x= .slice a h cap:=by
  have B:aS v w X (.aN n gen c i h) (p x):=A.1;obtain⟨q,C⟩:=hq (y n _ s);rcases ei B C with ⟨cap,b,m,D,l,_⟩|⟨_,_,F,l⟩
  ·exact⟨_,_,l⟩
  exact⟨none,0,by rw[F];exact l⟩
 refine⟨.int .i64 (h:Nat),?_,.t _ _ (.int _ _)⟩;simp[execOp,resolve,invoke,builtin,l,Builtin.len_,run_underlying r,goInt]
theorem OT(x:Operand)(a:List V)(k:Nat)(v:V)(h:a[k]? =some v):bK P H ⟨d,.extract x k,ty,pos,af,g⟩ [.bG a] v:=by
 intro l w X c _ m;have e:aS l w X (.bG a) (c x):=m.1;generalize n:c x=y at e;cases e with
 |bG _ b o p=>
  have i:k<b.size:=by rw[o];exact(bt.1 h).1
  refine⟨b[k],?_,p k v b[k] h (by simp[i])⟩;simp[execOp,n,Instr.extract,i]
theorem Dk(x:Operand)(v:V)(a:(match v with| .ref _ _=>true| .aP _=>true|_=>false)=true):bK P H ⟨d,.nilCheck x,ty,pos,af,g⟩ [v] v:=by
 intro h w X b _ i;have c:aS h w X v (b x):=i.1;refine⟨b x,?_,c⟩;generalize e:b x=y at c;cases c with
 |ref=>simp[execOp,e]
 |aP=>simp[execOp,e]
 |cd=>cases a
 |iG=>cases a
 |hW=>cases a
 |t=>cases a
 |agg=>cases a
 |bG=>cases a
 |aN=>cases a
 |fB=>cases a
 |fn=>cases a
 |ct=>cases a
theorem cI.ey: ∀{β:Map} {w:World} {X:Nat->Prop} {a:List V} {b:List Value},cI β w X a b->b.length=a.length/\ ∀(i:Nat) c u,a[i]? =some c->b[i]? =some u->aS β w X c u
 |_,_,_,[],[],_=>⟨rfl,λi c u h _=>by simp at h⟩
 |_,_,_,v::a,x::b,h=>by
  obtain⟨l,m⟩:=cI.ey h.2;refine⟨by simp[l],λi c u e k=>?_⟩;cases i with
  |zero=>simp at e k;subst e;subst k;exact h.1
  |succ i=>simp at e k;exact m i c u e k
 |_,_,_,[],_::_,h=>h.elim
 |_,_,_,_::_,[],h=>h.elim
theorem Np(f:FuncId)(a:Array Operand)(b:List V):bK P H ⟨d,.makeFunc (.func f) #[] a,ty,pos,af,g⟩ b (.fn f b):=by
 intro k w X h _ l;have e:cI k w X b (a.toList.map h):=by simpa[Op.operands] using l
 obtain⟨m,n⟩:=e.ey;exact⟨.func (.func f) #[] (a.map h),by simp[execOp,Instr.makeFunc],.fn f b _ (by simpa using m) λi c u o p=>n i c u o (by simpa using p)⟩
theorem S8(x y:Operand)(a:Array TypeId)(k:IntKind)(m n:Int):bK P H ⟨d,.call {callee:= .builtin .max,args:= #[x,y],argTypes:=a},ty,pos,af,g⟩ [.t (.int k m),.t (.int k n)] (.t (.int k (max m n))):=by
 intro o w X b _ c;refine⟨.int k (max m n),?_,.t _ _ (.int _ _)⟩;have e:b x= .int k m:=cY c.1;have h:b y= .int k n:=cY c.2.1;have i:(if n>m then n else m)=max m n:=by split<;>omega
 have l: ∀w,(Builtin.max_ a ty #[.int k m,.int k n]).run P w= .ok (.int k (max m n)) w:=by
  intro w;simp only[Builtin.max_,List.foldlM,Builtin.max2,i];rfl
 simp[execOp,resolve,invoke,builtin,e,h,l]
theorem S7(x y:Operand)(a:Array TypeId)(k:IntKind)(m n:Int):bK P H ⟨d,.call {callee:= .builtin .min,args:= #[x,y],argTypes:=a},ty,pos,af,g⟩ [.t (.int k m),.t (.int k n)] (.t (.int k (min m n))):=by
 intro l w X b _ c;refine⟨.int k (min m n),?_,.t _ _ (.int _ _)⟩;have e:b x= .int k m:=cY c.1;have h:b y= .int k n:=cY c.2.1;have i: ∀w,(Builtin.min_ a ty #[.int k m,.int k n]).run P w= .ok (.int k (min m n)) w:=by
  intro w;simp only[Builtin.min_,List.foldlM,Builtin.min2]
  first|rfl|(rw[show min m n=(if n<m then n else m) from by split<;>omega];rfl)
 simp[execOp,resolve,invoke,builtin,e,h,i]
end kU
section kU
variable {P:Program}{H:Nat->Option E}{d:Option Tmp}{ty:TypeId}{pos:String}{af:Array Edge}{g:Option (Nat×Bool)}
variable {t:TypeId}{u:TypeDesc}{z:Value}{size bytes:Nat}
theorem hg(w:World)(n:Nat)(y:Nat)(c:Go.BoundsCode)(h:n<=y):(Instr.sliceBound (.int .i64 (n:Nat)) y c).run P w= .ok n w:=by
 simp[Instr.sliceBound,asIntOf]
 grind
theorem CK(l:List UInt8)(a b:Nat):(ByteArray.mk l.toArray).extract a b=ByteArray.mk ((l.take b).drop a).toArray:=by
 apply ByteArray.ext;rw[ByteArray.data_extract]
 grind
theorem Mc(x:Operand)(h i:Operand)(l:List UInt8)(a b:Nat)(k:P.underlying t=some .string)(m:a<=b)(n:b<=l.length):
  bK P H ⟨d,.slice t x (some h) (some i) none,ty,pos,af,g⟩ [.t (.str l),.t (.int .i64 (a:Nat)),.t (.int .i64 (b:Nat))] (.t (.str ((l.take b).drop a))):=by
 intro s w X c _ e;refine⟨.string ⟨((l.take b).drop a).toArray⟩,?_,.t _ _ (.str _)⟩;have o:c x=_:=fD e.1;have p:c h=_:=cY e.2.1;have q:c i=_:=cY e.2.2.1;have r:(ByteArray.mk l.toArray).size=l.length:=by simp[ByteArray.size]
 simp[execOp,o,p,q,Instr.sliceAt,Instr.slice,run_underlying k,Instr.sliceBounds,r,hg w b l.length _ n,hg w a b _ m,CK]
theorem J7(x:Operand)(b:Operand)(l:List UInt8)(a:Nat)(h:P.underlying t=some .string)(i:a<=l.length):
  bK P H ⟨d,.slice t x (some b) none none,ty,pos,af,g⟩ [.t (.str l),.t (.int .i64 (a:Nat))] (.t (.str (l.drop a))):=by
 intro o w X c _ e;refine⟨.string ⟨(l.drop a).toArray⟩,?_,.t _ _ (.str _)⟩;have k:c x=_:=fD e.1;have m:c b=_:=cY e.2.1;have n:(ByteArray.mk l.toArray).size=l.length:=by simp[ByteArray.size]
 simp[execOp,k,m,Instr.sliceAt,Instr.slice,run_underlying h,Instr.sliceBounds,n,hg w a l.length _ i,CK]
theorem Ko(x:Operand)(a:Operand)(l:List UInt8)(b:Nat)(h:P.underlying t=some .string)(i:b<=l.length):
  bK P H ⟨d,.slice t x none (some a) none,ty,pos,af,g⟩ [.t (.str l),.t (.int .i64 (b:Nat))] (.t (.str (l.take b))):=by
 intro o w X c _ e;refine⟨.string ⟨(l.take b).toArray⟩,?_,.t _ _ (.str _)⟩;have k:c x=_:=fD e.1;have m:c a=_:=cY e.2.1;have n:(ByteArray.mk l.toArray).size=l.length:=by simp[ByteArray.size]
 simp[execOp,k,m,Instr.sliceAt,Instr.slice,run_underlying h,Instr.sliceBounds,n,hg w b l.length _ i,CK]
theorem b9.part{w:World}{X:Nat->Prop}{c:List (List T)}{v:Value}(h:b9 w X (.aa c) v)(a b size:Nat)(V:a<=b)(B:b<=c.length)(o: ∀m,m∈c->m.length=size):
  ∃p k,v= .slice p c.length k/\c.length<=k/\b9 w X (.aa ((c.take b).drop a)) (.slice (if k=a then p else p.map (·.add (a*size))) (b-a) (k-a)):=by
 cases h with
 |eH p k=>
  have Q:a=0:=by simp at B;omega
  have C:b=0:=by simp at B;omega
  subst Q;subst C;exact⟨p,k,rfl,aV,by simpa using b9.eH _ _⟩
 |aa _ R D l k f C W q r I M=>
  refine⟨_,k,rfl,q,?_⟩;have n:((c.take b).drop a).length=b-a:=b1
  by_cases F:a=b
  ·subst F;rw[show(c.take a).drop a=[] by simp];rw[nI];exact .eH _ _
  have G:c≠[]:=by intro e;subst e;simp at B;omega
  obtain⟨L,s⟩:=xf c G;have K:l=size:=by rw[<-r L s,o L s]
  subst K;rw[br O];simp only[Option.map_some,gQ];rw[<-n];refine .aa _ R (D+a*l) l (k-a) (λi j=>f (a+i) j) C W (by rw[n];omega) (λm y=>o m (hA (kl y))) (λi j N S=>?_) λi j m x A U=>?_
  ·have:=I (a+i) j (by rw[n] at N;omega) S;rw[dM,<-nG] at this;exact this
  refine M (a+i) j m x ?_ U;rw[ga,fJ] at A;split at A
  ·exact A
  cases A
theorem Kc(x:Operand)(k:Operand)(e:TypeId)(b:List (List T))(a:Nat)(q:P.underlying t=some (.slice e))(r:bL P e u z size bytes)(l:a<=b.length)(i: ∀c,c∈b->c.length=size):
  bK P H ⟨d,.slice t x (some k) none none,ty,pos,af,g⟩ [.t (.aa b),.t (.int .i64 (a:Nat))] (.t (.aa (b.drop a))):=by
 intro s w X m _ n;have v:m k=_:=cY n.2.1;have y:aS s w X (.t (.aa b)) (m x):=n.1;cases y with
 |t _ _ h=>
  obtain⟨C,A,B,o,p⟩:=h.part a b.length size l (cL _) i;rw[dA] at p;refine⟨_,?_,.t _ _ p⟩;simp[execOp,B,v,Instr.sliceAt,Instr.slice,run_underlying q,Instr.sliceBounds,hg w a b.length _ l,r.run_sizeOf]
theorem Lk(x:Operand)(l:Operand)(e:TypeId)(a:List (List T))(b:Nat)(q:P.underlying t=some (.slice e))(r:bL P e u z size bytes)(s:b<=a.length)(i: ∀c,c∈a->c.length=size):
  bK P H ⟨d,.slice t x none (some l) none,ty,pos,af,g⟩ [.t (.aa a),.t (.int .i64 (b:Nat))] (.t (.aa (a.take b))):=by
 intro v w X m _ n;have y:m l=_:=cY n.2.1;have A:aS v w X (.t (.aa a)) (m x):=n.1;cases A with
 |t _ _ h=>
  obtain⟨C,k,B,o,p⟩:=h.part 0 b size (Nat.zero_le _) s i;simp only[List.drop_zero] at p;refine⟨_,?_,.t _ _ p⟩;simp[execOp,B,y,Instr.sliceAt,Instr.slice,run_underlying q,Instr.sliceBounds,hg w b k _ O,r.run_sizeOf]
theorem Nl(x:Operand)(o p:Operand)(e:TypeId)(c:List (List T))(a b:Nat)(s:P.underlying t=some (.slice e))(v:bL P e u z size bytes)(q:a<=b)(y:b<=c.length)(k: ∀i,i∈c->i.length=size):
  bK P H ⟨d,.slice t x (some o) (some p) none,ty,pos,af,g⟩ [.t (.aa c),.t (.int .i64 (a:Nat)),.t (.int .i64 (b:Nat))] (.t (.aa ((c.take b).drop a))):=by
 intro A w X l _ m;have B:l o=_:=cY m.2.1;have C:l p=_:=cY m.2.2.1;have D:aS A w X (.t (.aa c)) (l x):=m.1;cases D with
 |t _ _ h=>
  obtain⟨K,n,F,r,G⟩:=h.part a b size q y k;refine⟨_,?_,.t _ _ G⟩;simp[execOp,F,B,C,Instr.sliceAt,Instr.slice,run_underlying s,Instr.sliceBounds,hg w b n _ O,hg w a b _ q,v.run_sizeOf]
end kU
theorem b9.WT{w:World}{X:Nat->Prop}{a:List (List T)}{e:Option Addr}{n i:Nat}(h:b9 w X (.aa a) (.slice e n i))(c:Nat)(p:n<=c):b9 w X (.aa a) (.slice e n c):=by
 cases h with
 |eH=>exact .eH _ c
 |aa _ b k size _ f q r o l m s=>exact .aa a b k size c f q r p l m s
theorem Lr{P:Program}{H:Nat->Option E}{d:Option Tmp}{ty t:TypeId}{pos:String}{af:Array Edge}{g:Option (Nat×Bool)}{u:TypeDesc}{z:Value}{i n:Nat}(x r s:Operand)(e:TypeId)(a:List (List T))(b:Nat)(B:P.underlying t=some (.slice e))(C:bL P e u z i n)(D:b<=a.length)(l: ∀c,c∈a->c.length=i):
  bK P H ⟨d,.slice t x none (some r) (some s),ty,pos,af,g⟩ [.t (.aa a),.t (.int .i64 (b:Nat)),.t (.int .i64 (b:Nat))] (.t (.aa (a.take b))):=by
 intro F w X m _ o;have G:m r=_:=cY o.2.1;have K:m s=_:=cY o.2.2.1;have L:aS F w X (.t (.aa a)) (m x):=o.1;cases L with
 |t _ _ h=>
  obtain⟨v,k,Q,y,p⟩:=h.part 0 b i (Nat.zero_le _) D l;simp only[List.drop_zero,Nat.zero_mul,Nat.sub_zero] at p;have q:b9 w X (.aa (a.take b)) (.slice (if b=0 then v else v.map (·.add 0)) b b):=by
   by_cases A:b=0
   ·subst A;exact .eH _ _
   rw[br (show¬k=0 by omega)] at p;rw[br A];exact p.WT b (cL _)
  refine⟨_,?_,.t _ _ q⟩;simp[execOp,Q,G,K,Instr.sliceAt,Instr.slice,run_underlying B,Instr.sliceBounds,hg w b k _ O,hg w b b _ (Nat.le_refl _),C.run_sizeOf]
section
def mC(e:Map)(w:World)(X:Nat->Prop)(a:List V)(b:List Value):Prop:=b.length=a.length/\ ∀(i:Nat) c u,a[i]? =some c->b[i]? =some u->aS e w X c u
variable {w:World}{X:Nat->Prop}{o:Oper}{vals:List V}{v:V}{n:Nat}
theorem mC.kh{W:Map}{a b:List V}{c e:List Value}(h:mC W w X a c)(k:mC W w X b e)(i:Nat)(l:i+b.length<=a.length):
  mC W w X (kh a i b) (c.take i++e++c.drop (i+e.length)):=by refine⟨?_,Dm a b i l c e h.1 k.1 h.2 k.2⟩;have m:=h.1;have b6:=k.1;simp[Lift.kh];omega
theorem EV: ∀(b:List Value) (k a:Nat) (cells:Array Value),a+k+b.length<=cells.size->
  (b.zipIdx k).foldl (λcs (p:Value×Nat)=>cs.setIfInBounds (a+p.2) p.1) cells=(cells.toList.take (a+k)++b++cells.toList.drop (a+k+b.length)).toArray
 | [],k,a,cells,_=>aV
 |v::b,k,a,cells,h=>by simp only[List.zipIdx_cons,List.foldl_cons];simp only[List.length_cons] at h;rw[EV b (k+1) a _ b1];have e:=list_seg_step cells.toList (a+k) v b b1;simp only[Array.toList_setIfInBounds,List.length_cons];congr 1
def iu(a:Nat->Option (Nat×Nat))(e:List V):List (Nat×V)->Option (List V)
 | []=>some e
 |(i,v)::b=>match a i with
  |none=>none
  |some (c,size)=>bif v.val&&Nat.beq v.cs.length size&&Nat.ble (c+size) e.length then iu a (kh e c v.cs) b else none
theorem q1{β:Map}{w:World}{X:Nat->Prop}(a:Nat->Option (Nat×Nat)): ∀(is:List Nat) (e:List V) (B:List Value) (cs:List V) (k:Array Value) (m:List V),mC β w X cs k.toList->cI β w X e B->is.length=e.length->
  iu a cs (is.zip e)=some m-> ∃n,Instr.fill a k (is.zip B)=some n/\mC β w X m n.toList
 | [],[],[],cs,k,m,h,_,_,l=>by simp[iu] at l;subst l;exact⟨k,rfl,h⟩
 |i::is,v::e,x::B,cs,k,m,h,y,A,l=>by
  simp only[List.zip_cons_cons,iu] at l;cases D:a i with
  |none=>rw[D] at l;cases l
  |some q=>
   obtain⟨b,size⟩:=q;rw[D] at l;simp only[] at l;cases C:(v.val&&Nat.beq v.cs.length size&&Nat.ble (b+size) cs.length) with
   |false=>rw[C] at l;cases l
   |true=>
    rw[C,cond_true] at l;simp only[Bool.and_eq_true] at C;obtain⟨⟨W,b2⟩,R⟩:=C;have b2:=ca b2;have R:=eb R;obtain⟨F,f⟩:=y.1.cells W;have j:k.size=cs.length:=by simpa using h.1
    have G:mC β w X v.cs x.cells.toList:=⟨by simpa using F,λi c u L Q=>f i c u L (by simpa using Q)⟩
    have o:=h.kh G b O;have r:x.cells.zipIdx.foldl (λcs (p:Value×Nat)=>cs.setIfInBounds (b+p.2) p.1) k=(k.toList.take b++x.cells.toList++k.toList.drop (b+x.cells.toList.length)).toArray:=by
     rw[<-Array.foldl_toList,Array.toList_zipIdx]
     have:=EV x.cells.toList 0 b k (by simp[F];omega);simpa using this
    obtain⟨n,L,Q⟩:=q1 a is e B (kh cs b v.cs) (k.toList.take b++x.cells.toList++k.toList.drop (b+x.cells.toList.length)).toArray m (by simpa using o) y.2 (by simpa using A) l;refine⟨n,?_,Q⟩;simp only[List.zip_cons_cons,Instr.fill,D];rw[br (by simp[F];omega),r];exact L
 | [],_::_,_,_,_,_,_,_,A,_=>by simp at A
 |_::_,[],_,_,_,_,_,_,A,_=>by simp at A
 | [],[],_::_,_,_,_,_,y,_,_=>y.elim
 |_::_,_::_,[],_,_,_,_,y,_,_=>y.elim
theorem qJ(b:Operand->Value): ∀a:List (Nat×Operand),a.map (λp=>(p.1,b p.2))=(a.map (·.1)).zip ((a.map (·.2)).map b)
 | []=>rfl
 |p::a=>by simp only[List.map_cons,List.zip_cons_cons,qJ b a]
def u1(P:Program)(H:Nat->Option E)(o:Oper)(a:List V)(v:V):Prop:=
 ∀(c:Map) (w:World) (X:Nat->Prop) (i:Operand->Value),(∀id e,H id=some e->b4 c w X id e)->(∀b,X b->b<w.heap.size)->
  cI c w X a (o.op.operands.toList.map i)-> ∃u h,(execOp i o).run P w= .ok (.value u) h/\Ext (λ_=>False) w h/\aS c h X v u
theorem bK.g{P:Program}{H:Nat->Option E}(h:bK P H o vals v):u1 P H o vals v:=
 λa w X b c _ e=>let ⟨u,i,k⟩:=h a w X b c e;⟨u,w,i,Ext.refl _ _,k⟩
theorem Rel.BP{K:Ctx}{β:Map}{s:S}{a:Act}(c:Rel K β s a w): ∀b,own K β s.H b->b<w.heap.size:=by
 rintro b (e|⟨id,_,h⟩)
 ·exact iU (c.gy b e).1 c.ext.size
 exact(c.fresh id b h).2
theorem BU{K:Ctx}{s:S}(m: ∀i,o.dst=some i->Nat.blt i K.nt=true)(n:ez (o.op.operands.toList.map s.get) vals)(h:u1 K.P s.H o vals v):
  dj K o s (s.put o.dst v):=by
 intro k a w next Q c p
 obtain⟨u,q,b,l,r⟩:=h k w (own K k s.H) a.eval (λid e l=>(c.heap id e l).2) c.BP ((c.k6 _).le n);unfold Oper.wp;rw[b];exact p k _ q ((c.grow l).put o.dst m r)
section ops
variable {P:Program}{H:Nat->Option E}{d:Option Tmp}{ty:TypeId}{pos:String}{af:Array Edge}{g:Option (Nat×Bool)}
variable {t:TypeId}{u:TypeDesc}{z:Value}{size bytes:Nat}
theorem x1(b:Map)(w:World)(X:Nat->Prop)(us:List Value)(n:Nat)(h:us.length=n):mC b w X (List.replicate n .ct) us:=
 ⟨by simp[h],λi c u a _=>by
  rw[rf] at a;split at a
  ·cases a;exact .ct _
  cases a⟩
theorem Ro(h:Array (Nat×Operand))(B:Array Field)(a:Array (Nat×Nat))(b k:List V)(C:bL P t (.struct B) z size bytes)
  (D: ∀w,(B.mapM (m:=Sem) λf:Field=>do pure (f.offset,<-sizeOf f.type)).run P w= .ok a w) (F:(fv z).val=true) (l:Nat.beq h.toList.length b.length=true)
  (G:iu (a[·]?) (fv z).cs ((h.toList.map (·.1)).zip b)=some k):bK P H ⟨d,.build t h,ty,pos,af,g⟩ b (.agg k):=by
 intro p w X n _ L;have q:cI p w X b ((h.toList.map (·.2)).map n):=by simpa[Op.operands] using L
 obtain⟨Q,R⟩:=(tb p w X z).cells F;obtain⟨r,v,o⟩:=q1 (β:=p) (w:=w) (X:=X) (a[·]?) (h.toList.map (·.1)) b _ (fv z).cs z.cells k ⟨by simpa using Q,λi c u v o=>R i c u v (by simpa using o)⟩ q (by simpa using ca l) G;refine⟨.agg r,?_,.agg _ _ (by simpa using o.1) λi c u W j=>o.2 i c u W (by simpa using j)⟩;have y:=qJ n h.toList;have A:=D w;simp only[execOp,Instr.build,Sem.run_bind,C.o8,Result.andThen_ok,run_underlying C.1];rw[A];simp only[Result.andThen_ok,Array.toList_map];have e:(h.toList.map λx=>match x with|(i,x)=>(i,n x))=(h.toList.map (·.1)).zip ((h.toList.map (·.2)).map n):=by rw[<-y]
 rw[e,v];rfl
theorem EG(x:Operand)(k:Nat)(A:Array Field)(e:Field)(l:List V)(v:V){a:TypeDesc}{b:Value}{L:Nat}(B:bL P t (.struct A) z size bytes)(C:A[k]? =some e)(h:bL P e.type a b n L)
  (o:(iB a=true/\Nat.ble (e.offset+n) l.length=true/\v= .agg ((l.drop e.offset).take n))\/(iB a=false/\l[e.offset]? =some v)):bK P H ⟨d,.field t x k,ty,pos,af,g⟩ [.agg l] v:=by
 intro W w X D _ m;have F:aS W w X (.agg l) (D x):=m.1;generalize G:D x=y at F;cases F with
 |agg _ p f Q=>
  rcases o with ⟨m,j,rfl⟩|⟨m,o⟩
  ·have I:=eb j;refine⟨.agg (p.extract e.offset (e.offset+n)),?_,.agg _ _ b1 λi c u r q=>?_⟩
   ·simp[execOp,G,Instr.field,run_underlying B.1,C,asAgg,part,h.wS,h.run_sizeOf,m]
   have M:i<n:=by
    have:=(bt.1 r).1;simp at this;omega
   rw[List.getElem?_take_of_lt M,ga] at r;refine Q (e.offset+i) c u r ?_;rw[Array.getElem?_extract] at q;split at q
   ·exact q
   cases q
  have R:e.offset<p.size:=by rw[f];exact(bt.1 o).1
  refine⟨p[e.offset],?_,Q _ v p[e.offset] o (by simp[R])⟩;simp[execOp,G,Instr.field,run_underlying B.1,C,asAgg,part,h.wS,m,R]
theorem JF(n:Nat)(m:Array (Nat×Operand))(e:TypeId)(k:List V)(a:List (List T))(hu:P.underlying t=some (.slice e))(N:bL P e u z size bytes)(y:Nat.beq m.toList.length k.length=true)
  (cn:Nat.beq a.length n=true) (o: ∀c,c∈a->c.length=size) (A:Nat.ble (n*size) 16777216=true)
  (gj:iu (λi=>some (i*size,size)) (List.replicate (n*size) .ct) ((m.toList.map (·.1)).zip k)=some (a.flatten.map .t)):
  u1 P H ⟨d,.buildSlice t n m,ty,pos,af,g⟩ k (.t (.aa a)):=by
 intro U w X B _ e8 fE;have Q:=ca cn;have R:cI U w X k ((m.toList.map (·.2)).map B):=by simpa[Op.operands] using fE
 have W:=qJ B m.toList;obtain⟨l,p,v⟩:=q1 (β:=U) (w:=w) (X:=X) (λi=>some (i*size,size)) (m.toList.map (·.1)) k _ (List.replicate (n*size) .ct)
  ((Array.range (n*size)).map ((if n*size=0 then #[] else z.cells)[· %(if n*size=0 then #[] else z.cells).size]!)) _ (x1 _ _ _ _ _ aV) R (by simpa using ca y) gj
 have C:(execOp B ⟨d,.buildSlice t n m,ty,pos,af,g⟩).run P w= .ok (.value (.slice (some ⟨w.heap.size,0,none⟩) n n)) (w.alloc (.cells l e)):=by
  have Y:(m.toList.map λx=>match x with|(i,x)=>(i,B x))=(m.toList.map (·.1)).zip ((m.toList.map (·.2)).map B):=by rw[<-W]
  have f: ¬(n*size>2^24):=by have:=eb A;omega
  simp only[execOp,Instr.buildSlice,Sem.run_bind,run_underlying hu,Result.andThen_ok,N.run_sizeOf,f,if_false,Array.toList_map];by_cases G:n*size=0
  ·simp only[G,if_true] at p;simp only[G,if_true,Sem.run_pure,Sem.run_bind,Result.andThen_ok];rw[Y,p];rfl
  simp only[G,if_false] at p;simp only[G,if_false,Sem.run_pure,Sem.run_bind,N.o8,Result.andThen_ok];rw[Y,p];rfl
 refine⟨_,_,C,Ext.alloc _ _ _,.t _ _ ?_⟩;subst Q;have q:l.size=a.flatten.length:=by
  have h:=v.1
  grind
 have I:a.flatten.length=a.length*size:=by
  rw[List.length_flatten]
  have:a.map List.length=List.replicate a.length size:=List.eq_replicate_iff.2 ⟨aV,λb f=>by obtain⟨r,bH,rfl⟩:=fY.1 f;exact o r bH⟩;rw[this];simp
 have D: ∀(a:List (List T)),(∀c,c∈a->c.length=size)-> ∀(i j:Nat) (c:List T) (x:T),a[i]? =some c->c[j]? =some x->a.flatten[i*size+j]? =some x:=by
  intro a;induction a with
  |nil=>intro _ i j c x h _;simp at h
  |cons r a l5=>
   intro hs i j c x p v;have bH:=hs r aV;rw[List.flatten_cons];cases i with
   |zero=>
    simp at p;subst p
    have:=(bt.1 v).1;rw[fe,dn,hD this];exact v
   |succ i=>
    simp at p;rw[gK (by rw[bH,dM];omega)];rw[show(i+1)*size+j-r.length=i*size+j by rw[bH,dM];omega];exact l5 (λc h=>hs c (by simp[h])) i j c x p v
 have F: ∀i j,i<a.length->j<size->i*size+j<l.size:=by
  intro i j aD L;rw[q,I]
  have:(i+1)*size<=a.length*size:=dq _ aD
  grind
 refine .aa a w.heap.size 0 size a.length (λi j=>l.getD (i*size+j) undef) aV (λh=>by have:=e8 _ h;omega) (cL _) o (λi j aD L=>?_) λi j c x M h4=>?_
 ·rw[dn,World.cell?_alloc_new]
  have:=F i j aD L;simp[this]
 have h5:=D a o i j c x M h4;have aD:=(bt.1 M).1;have L:j<size:=by rw[<-o c (bA M)];exact(bt.1 h4).1
 have h6:=F i j aD L;have il:=v.2 (i*size+j) (.t x) l[i*size+j] (by rw[dT,h5];rfl) (by simp[h6]);cases il with
 |t _ _ h=>
  have:l.getD (i*size+j) undef=l[i*size+j]:=by simp[h6]
  rw[this];exact h.mono (Ext.alloc X _ _) λ_ _ h=>h
end ops
theorem j3{i j size:Nat}(a:i<n)(b:j<size):i*size+j<n*size:=by
 have:(i+1)*size<=n*size:=dq _ a
 grind
section ops
variable {K:Ctx}{s:S}{d:Option Tmp}{ty:TypeId}{pos:String}{af:Array Edge}{g:Option (Nat×Bool)}
variable {t:TypeId}{u:TypeDesc}{z:Value}{size bytes:Nat}
theorem FY(k:Nat)(hk:s.u k=false)(l c:Operand)(e:TypeId)(m:Nat)(b:List T)(cA: ∀i,d=some i->Nat.blt i K.nt=true)(hu:K.P.underlying t=some (.slice e))(he:bL K.P e u z size bytes)
  (ch:s.get l= .t (.int .i64 (m:Nat))) (bl:s.get c= .t (.int .i64 (m:Nat))) (db:(fv z).cs=b.map .t) (C:(fv z).val=true) (hs:Nat.beq b.length size=true) (o:Nat.blt 0 size=true) (hm:m*bytes<=281474976710656) (vF:m<=9223372036854775807):
  dj K ⟨d,.makeSlice t l c,ty,pos,af,g⟩ s ((s.new k (.arr e 1 size (List.replicate m b))).put d (.aN k 1 size 0 m)):=by
 intro D a w next Q R W
 have F:=R.get l;rw[ch] at F;have G:=R.get c;rw[bl] at G;have F:=cY F;have G:=cY G;have p:=ca hs;have hp:0<size:=by simpa[Nat.blt_eq] using o
 obtain⟨c1,c2⟩:=(tb D w (own K D s.H) z).cells C;have q:z.cells.size=size:=by rw[c1,db];simpa using p
 have r:(execOp a.eval ⟨d,.makeSlice t l c,ty,pos,af,g⟩).run K.P w= .ok (.value (.slice (some ⟨w.heap.size,0,none⟩) m m)) (w.alloc (.cells ((Array.range (m*size)).map (z.cells[· %z.cells.size]!)) e)):=by
  obtain⟨_,i,X,f,I,oF⟩:=he;have aQ:(i.bytes:Int)*(m:Int)<=281474976710656:=by
   grind
  have:=run_make (P:=K.P) w t e i z hu X f .i64 .i64 m m O (fZ _) aQ O;simp only[Int.toNat_natCast,I,madeCells] at this;simp only[execOp,F,G,Sem.run_bind,this,Result.andThen_ok];rfl
 unfold Oper.wp;rw[r];have v:=R.new k 1 hk ((Array.range (m*size)).map (z.cells[· %z.cells.size]!)) e (.arr e 1 size (List.replicate m b)) λβ' X' w' hw cn M=>⟨cL _,Or.inr ⟨w.heap.size,_,cn,by subst hw;exact ie _ _,?_,?_,?_⟩⟩
 ·have N:(w.alloc (.cells ((Array.range (m*size)).map (z.cells[· %z.cells.size]!)) e)).heap.size=w.heap.size+1:=World.size_alloc ..;have U:(w.alloc (.cells ((Array.range (m*size)).map (z.cells[· %z.cells.size]!)) e)).shape? w.heap.size=some (e,m*size):=by unfold World.shape?;rw[ie];simp
  have C:aS (D.put k (some (some w.heap.size,1))) (w.alloc (.cells ((Array.range (m*size)).map (z.cells[· %z.cells.size]!)) e)) (own K (D.put k (some (some w.heap.size,1))) (s.new k (.arr e 1 size (List.replicate m b))).H) (.aN k 1 size 0 m)
    (.slice (some ⟨w.heap.size,0*size,none⟩) m m):= .aN k 1 size 0 m m w.heap.size (m*size) e (cL _) (bu _ _ _) (N▸ly _) U (by rw[dn]) (cL _) (by unfold maxLen;omega)
  rw[fe] at C;exact W _ _ _ (v.put d cA C)
 ·simp
 ·intro V mT
  grind
 intro i j V x y L hj Y;rw[rf] at L;split at L
 ·rename_i UZ;cases L;have n:j<size:=by rw[<-p];exact(bt.1 hj).1
  have A:=j3 UZ n;simp only[Array.getElem?_map,Array.getElem?_range,A,if_true,Option.map_some,Option.some.injEq] at Y;have B:(i*size+j)%z.cells.size=j:=by rw[q,Nat.add_comm,Nat.add_mul_mod_self_right,Nat.mod_eq_of_lt n]
  rw[B] at Y;have VP:z.cells[j]? =some y:=by rw[<-Y];rw[getElem!_pos _ _ O];simp[q,n]
  have h3:=c2 j (.t x) y (by rw[db,dT,hj];rfl) VP;have h4:=M _ _ h3;cases h4 with|t _ _ h=>exact h
 cases L
def Src(w:World)(X:Nat->Prop)(c:Nat)(a:List (List T))(u:Value):Prop:=
 (u= .slice none 0 0/\a=[])\/ ∃(b e l:Nat) (k:List Value),u= .slice (some ⟨b,e,none⟩) a.length l/\k.length=a.length*c/\
  (∀(j:Nat) x,k[j]? =some x->w.cell? ⟨b,e+j,none⟩=some x)/\(∀x,x∈k->x.oneCell'=true)/\
  ∀(i j:Nat) (h:List T) (x:T) (y:Value),a[i]? =some h->h[j]? =some x->k[i*c+j]? =some y->b9 w X x y
theorem b9.gX{x:T}{u:Value}(h:b9 w X x u):u.oneCell'=true:=by cases h<;>rfl
theorem yC{N:Map}{size:Nat}{e:List (List T)}{u:Value}(h:aS N w X (.t (.aa e)) u)(D: ∀k,k∈e->k.length=size)(r:0<size):
  Src w X size e u\/(e=[]/\ ∃a l,u= .slice a 0 l):=by
 cases h with
 |t _ _ h=>cases h with
  |eH a l=>exact .inr ⟨rfl,a,l,rfl⟩
  |aa _ b F c l f aQ e8 W n U I=>
   by_cases v:e=[]
   ·subst v;exact .inr ⟨rfl,_,_,rfl⟩
   obtain⟨M,A⟩:=xf e v;have G:c=size:=by rw[<-n M A,D M A]
   subst G;refine .inl (.inr ⟨b,F,l,(List.range (e.length*c)).map λm=>f (m / c) (m%c),rfl,aV,λj x p=>?_,λx V=>?_,λi j k x y q L C=>?_⟩)
   ·rw[dT] at p;cases o:(List.range (e.length*c))[j]? with
    |none=>rw[o] at p;cases p
    |some Q=>
     rw[o] at p;have B:j<e.length*c:=by simpa using (bt.1 o).1
     have R:Q=j:=by rw[List.getElem?_range B] at o;cases o;rfl
     subst R;simp at p;rw[<-p]
     have:=U (Q / c) (Q%c) (by rw[tQ r];exact B) (Nat.mod_lt _ r);rw[nG,Nat.mul_comm,Nat.div_add_mod] at this;exact this
   ·obtain⟨m,hm,rfl⟩:=fY.1 V;have hm:=rb.1 hm;have q:m / c<e.length:=by rw[tQ r];exact hm
    have L:=Nat.mod_lt m r;have C:=n e[m / c] (ft q);exact(I (m / c) (m%c) e[m / c] (e[m / c])[m%c] (bh q) (bh O)).gX
   have p:j<c:=by rw[<-n k (bA q)];exact(bt.1 L).1
   have aD:=(bt.1 q).1;rw[dT,List.getElem?_range (j3 aD p)] at C;simp at C;rw[<-C];have Y:(i*c+j) / c=i:=by rw[Nat.mul_comm,Nat.mul_add_div r,Nat.div_eq_of_lt p,nH]
   rw[Y,Nat.mod_eq_of_lt p];exact I i j k x q L
end ops
end
variable {W β:Map}{k i:Nat}{a:Act}{w:World}
theorem uC{gen:Nat}(q:Option Nat)(b:Option Nat)(e:1<=gen)(h:W k=some (q,gen)):cN W (W.put k (some (b,gen+1))):=by
 intro id i l a;by_cases c:id=k
 ·subst c;rw[h] at a;cases a;exact .inr ⟨e,b,gen+1,iF _ _ _,ly _⟩
 exact .inl (by rw[dK _ _ _ _ c];exact a)
theorem Rel.move{K:Ctx}{s:S}(h:Rel K β s a w)(k:Nat)(A:TypeId)(gen l:Nat)(F:List (List T))(I:s.H k=some (.arr A gen l F))(B:Array Value)(c:List (List T))
  (G:c.length*l<=B.size) (M: ∀n,n∈c->n.length=l) (N: ∀(i j:Nat) (n:List T) (x:T) (u:Value),c[i]? =some n->n[j]? =some x->B[i*l+j]? =some u->b9 w (own K β s.H) x u):
  Rel K (β.put k (some (some w.heap.size,gen+1))) {s with H:=aE s.H k (some (.arr A (gen+1) l c))} a (w.alloc (.cells B A)):=by
 have m: ∀X,Ext X w (w.alloc (.cells B A)):=λX=>Ext.alloc X w _;have L:s.u k=true:=(h.heap k _ I).1;obtain⟨nk,Q⟩:=hq (h.heap k _ I).2;have R:=(h.heap k _ I).2.1;have o: ∀id b,At (β.put k (some (some w.heap.size,gen+1))) id b->(id=k/\b=w.heap.size)\/At β id b:=λid b aQ=>by
  rcases aQ with ⟨g,aQ⟩|aQ
  ·by_cases q:id=k
   ·subst q;rw[iF] at aQ;cases aQ;exact .inl ⟨rfl,rfl⟩
   rw[dK _ _ _ _ q] at aQ;exact .inr (.inl ⟨g,aQ⟩)
  exact .inr (.inr aQ)
 have r: ∀b,b<w.heap.size->own K (β.put k (some (some w.heap.size,gen+1))) (aE s.H k (some (.arr A (gen+1) l c))) b->own K β s.H b:=by
  rintro b hlt (P|⟨id,D,W⟩)
  ·exact .inl P
  rcases o id b W with ⟨rfl,rfl⟩|C
  ·omega
  refine .inr ⟨id,λU=>?_,C⟩;by_cases q:id=k
  ·subst q;rw[I] at U;cases U
  rw[bx _ _ _ _ q] at D;exact D U
 have f:Shaped β w (w.alloc (.cells B A)):=lQ (m _);have E:=uC nk (some w.heap.size) R Q;have V: ∀v u,aS β w (own K β s.H) v u->aS (β.put k (some (some w.heap.size,gen+1))) (w.alloc (.cells B A)) (own K (β.put k (some (some w.heap.size,gen+1))) (aE s.H k (some (.arr A (gen+1) l c)))) v u:=
  λv u bF=>bF.mono (m _) r E f
 refine {ext:=h.ext.trans ((m λ_=>False).weaken λ_ _ h=>h.elim),k7:=h.k7,lp:=h.lp,gy:=h.gy,mX:=h.mX,base:= ?_,gI:=h.gI.ext h.ext.size (m _),low:=h.low,cW:= ?_,du:=λid b hid=>h.du id b hid,inj:= ?_,fresh:= ?_,heap:= ?_,cu:=λi=>V _ _ (h.cu i),nt:=h.nt,defers:=h.defers}
 ·exact h.base.grow k gen nk (some w.heap.size) Q R (iF _ _ _) (λb aQ=>by cases aQ;exact .inr h.ext.size) λid q=>dK _ _ _ _ q
 ·intro id hid;have y:s.u id=false:=hid;by_cases e:id=k
  ·subst e;rw[L] at y;cases y
  rw[dK _ _ _ _ e];exact h.cW id y
 ·intro id Y b D W;rcases o id b D with ⟨rfl,rfl⟩|C<;>rcases o Y _ W with ⟨rfl,e⟩|h4
  ·rfl
  ·have:=(h.fresh _ _ h4).2;omega
  ·subst e;have:=(h.fresh _ _ C).2;omega
  exact h.inj _ _ _ C h4
 ·intro id b aQ;rcases o id b aQ with ⟨rfl,rfl⟩|C
  ·exact⟨.inr h.ext.size,aV⟩
  exact⟨(h.fresh _ _ C).1,by have:=(h.fresh _ _ C).2;simp;omega⟩
 intro id e' p;have p:aE s.H k (some (.arr A (gen+1) l c)) id=some e':=p;show s.u id=true/\b4 _ _ (own K _ (aE s.H k (some (.arr A (gen+1) l c)))) id e';by_cases q:id=k
 ·subst q;rw[bu] at p;cases p;refine⟨L,O,Or.inr ⟨w.heap.size,B,bu _ _ _,ie _ _,G,M,λi j n x u ay a2 a3=>(N i j n x u ay a2 a3).mono (m _) r⟩⟩
 rw[bx _ _ _ _ q] at p;obtain⟨D,W⟩:=h.heap id e' p;refine⟨D,W.mono (m _) r E (λx P=>by rw[dK _ _ _ _ q];exact P) f λb aQ=>th _ _ _ (h.fresh id b aQ).2⟩
theorem Rel.bump{K:Ctx}{s:S}(h:Rel K β s a w)(k:Nat)(A:TypeId)(gen c:Nat)(l:List (List T))(q:Option Nat)(B:β k=some (q,gen))(L:s.H k=some (.arr A gen c l)):
  Rel K (β.put k (some (q,gen+1))) {s with H:=aE s.H k (some (.arr A (gen+1) c l))} a w:=by
 have C:s.u k=true:=(h.heap k _ L).1;have D:=(h.heap k _ L).2.1;have m: ∀id b,At (β.put k (some (q,gen+1))) id b->At β id b:=λid b aQ=>by
  rcases aQ with ⟨g,aQ⟩|aQ
  ·by_cases p:id=k
   ·subst p;rw[iF] at aQ;cases aQ;exact .inl ⟨gen,B⟩
   rw[dK _ _ _ _ p] at aQ;exact .inl ⟨g,aQ⟩
  exact .inr aQ
 have r: ∀b,own K (β.put k (some (q,gen+1))) (aE s.H k (some (.arr A (gen+1) c l))) b->own K β s.H b:=by
  rintro b (Q|⟨id,o,y⟩)
  ·exact .inl Q
  refine .inr ⟨id,λR=>?_,m id b y⟩;by_cases p:id=k
  ·subst p;rw[L] at R;cases R
  rw[bx _ _ _ _ p] at o;exact o R
 have F:=uC q q D B;refine {h with base:= ?_,cW:= ?_,inj:= ?_,fresh:=λid b aQ=>h.fresh id b (m id b aQ),heap:= ?_,cu:=λi=>(h.cu i).mono (Ext.refl _ _) (λb _=>r b) F (Shaped.refl _ _)}
 ·exact h.base.grow k gen q q B D (bu _ _ _) (λb aQ=> .inl aQ) λid p=>dK _ _ _ _ p
 ·intro id hid;have v:s.u id=false:=hid;by_cases e:id=k
  ·subst e;rw[C] at v;cases v
  rw[dK _ _ _ _ e];exact h.cW id v
 ·intro id G b o y;exact h.inj id G b (m id b o) (m G b y)
 intro id e' n;have n:aE s.H k (some (.arr A (gen+1) c l)) id=some e':=n;show s.u id=true/\b4 _ _ (own K _ (aE s.H k (some (.arr A (gen+1) c l)))) id e';by_cases p:id=k
 ·subst p;rw[bu] at n;cases n;refine⟨C,O,?_⟩;rcases(h.heap id _ L).2.2 with ⟨o,y⟩|⟨b,X,o,y,f,E,I⟩
  ·rw[B] at o;cases o;exact .inl ⟨bu _ _ _,y⟩
  rw[B] at o;cases o;exact .inr ⟨b,X,bu _ _ _,y,f,E,λi j W x u ay a2 a3=>(I i j W x u ay a2 a3).mono (Ext.refl _ _) λb _=>r b⟩
 rw[bx _ _ _ _ p] at n;obtain⟨o,y⟩:=h.heap id e' n;exact⟨o,y.mono (Ext.refl _ _) (λb _=>r b) F (λx Q=>by rw[dK _ _ _ _ p];exact Q) (Shaped.refl _ _) λ_ _=>rfl⟩
theorem y3{K:Ctx}{s:S}(h:Rel K W s a w):Rel K W s a w.drew:=h.grow (Ext.drew _ _)
theorem x2{n size:Nat}{rows news:List (List T)}(c m e:List Value)(o:rows.length=n)(p:c.length=n*size)(C:m.length=news.length*size)(y: ∀a,a∈rows->a.length=size)(q: ∀a,a∈news->a.length=size){R:T->Value->Prop}
  (D: ∀(i j:Nat) (a:List T) (x:T) (u:Value),rows[i]? =some a->a[j]? =some x->c[i*size+j]? =some u->R x u)
  (F: ∀(i j:Nat) (a:List T) (x:T) (u:Value),news[i]? =some a->a[j]? =some x->m[i*size+j]? =some u->R x u):
  ∀(i j:Nat) (a:List T) (x:T) (u:Value),(rows++news)[i]? =some a->a[j]? =some x->(c++m++e)[i*size+j]? =some u->R x u:=by
 intro i j a x u h v A;by_cases k:i<rows.length
 ·rw[hD k] at h;have b:j<size:=by rw[<-y a (bA h)];exact(bt.1 v).1
  have l:i*size+j<c.length:=by rw[p,<-o];exact j3 k b
  grind
 rw[gK O] at h;have b:j<size:=by rw[<-q a (bA h)];exact(bt.1 v).1
 have r:=(bt.1 h).1;have l:=j3 (size:=size) r b;have B:c.length<=i*size+j:=by rw[p,<-o];have:=dq size (O:rows.length<=i);omega
 have w:i*size+j-c.length=(i-rows.length)*size+j:=by rw[p,<-o,Nat.sub_mul];have:=dq size (O:rows.length<=i);omega
 grind
theorem Rel.append{K:Ctx}{s:S}{t e:TypeId}{u:TypeDesc}{z:Value}{gen size I:Nat}(h:Rel K β s a w)(k:Nat)(c l:List (List T))(hk:s.H k=some (.arr e gen size c))(ty:TypeId)
  (hu:K.P.underlying t=some (.slice e)) (he:bL K.P e u z size I) (sI:z.cells.size=size) (hs: ∀m,m∈c->m.length=size) (mU: ∀m,m∈l->m.length=size) (v x:Value) (bF:aS β w (own K β s.H) (.aN k gen size 0 c.length) v)
  (hx:Src w (own K β s.H) size l x\/(l=[]/\ ∃gB r,x= .slice gB 0 r)) (aQ:(c.length+l.length)*I<=140737488355328) (hm:c.length+l.length<=maxLen):
  ∃c8 w' A,(Builtin.append_ #[t,t] ty #[v,x]).run K.P w= .ok c8 w'/\Rel K A {s with H:=aE s.H k (some (.arr e (gen+1) size (c++l)))} a w'/\
   aS A w' (own K A (aE s.H k (some (.arr e (gen+1) size (c++l))))) (.aN k (gen+1) size 0 (c.length+l.length)) c8:=by
 obtain⟨q,cK⟩:=hq (h.heap k _ hk).2;have hl:=(h.heap k _ hk).2.1;obtain⟨_,i,M,hi2,X,oF⟩:=id he;have hm':c.length+l.length<=9223372036854775807:=by unfold maxLen at hm;omega
 have hh:=(h.heap k _ hk).2.2;have sC: ∀m,m∈c++l->m.length=size:=λm mT=>by
  rcases ff.1 mT with h|h
  ·exact hs m h
  exact mU m h
 -- nothing is appended
 have Q:l=[]-> ∀gB r,x= .slice gB 0 r-> ∃c8 w' A,(Builtin.append_ #[t,t] ty #[v,x]).run K.P w= .ok c8 w'/\Rel K A {s with H:=aE s.H k (some (.arr e (gen+1) size (c++l)))} a w'/\
   aS A w' (own K A (aE s.H k (some (.arr e (gen+1) size (c++l))))) (.aN k (gen+1) size 0 (c.length+l.length)) c8:=by
  intro cn gB r G;subst cn;subst G;rw[kn];refine⟨v,w,_,?_,h.bump k e gen size c q cK hk,?_⟩
  ·rcases ei bF cK with ⟨Aw,b,n,gr,rfl,L,hw,D,f,ch,k9⟩|⟨L,_,_,rfl⟩
   ·cases gB<;>simp[Builtin.append_,run_underlying hu,sizeOf,typeInfo,M,Builtin.lenOf,Builtin.firstCells,ch,storeCells,loadCells,loadCellsFrom]
   cases gB<;>simp[Builtin.append_,run_underlying hu,sizeOf,typeInfo,M,Builtin.lenOf,Builtin.firstCells,loadCells,loadCellsFrom]
  simp only[List.length_nil,Nat.add_zero];rcases ei bF cK with ⟨Aw,b,n,gr,rfl,L,hw,D,f,ch,k9⟩|⟨L,_,Vc,rfl⟩
  ·subst L;exact .aN k (gen+1) size 0 _ Aw b n gr O (bu _ _ _) hw D f ch k9
  subst L;rw[Vc];exact .fB k (gen+1) size O (bu _ _ _)
 rcases hx with (⟨G,f⟩|⟨b2,off,N,B,G,W,sE,k',hwr⟩)|⟨cn,gB,r,G⟩
 ·exact Q f none 0 G
 ·by_cases j2:l=[]
  ·subst j2;exact Q rfl _ _ G
  have Vk:0<l.length:=List.length_pos_iff.2 j2;have U: ∀j y,B[j]? =some y->w.cell? ((⟨b2,off,none⟩:Addr).add j)=some y:=λj y hy=>by rw[gQ];exact sE j y hy
  have kE:(c.length+l.length)*i.bytes<=140737488355328:=by rw[oF];exact aQ
  -- the rows that lie there
  have finish: ∀(E:List Value) (o:Nat),E.length=c.length*size->c.length+l.length<=o->o<=maxLen->(∀(i j:Nat) (m:List T) (x:T) (u:Value),c[i]? =some m->m[j]? =some x->E[i*size+j]? =some u->b9 w (own K β s.H) x u)->
    ∃A,Rel K A {s with H:=aE s.H k (some (.arr e (gen+1) size (c++l)))} a (w.drew.alloc (.cells (E.toArray++B.toArray++Builtin.zeroCells z.cells (o-(c.length+l.length))) e))/\
     aS A (w.drew.alloc (.cells (E.toArray++B.toArray++Builtin.zeroCells z.cells (o-(c.length+l.length))) e)) (own K A (aE s.H k (some (.arr e (gen+1) size (c++l))))) (.aN k (gen+1) size 0 (c.length+l.length)) (.slice (some ⟨w.heap.size,0,none⟩) (c.length+l.length) o):=by
   intro E o l2 V hcm Bi;have Y:(E.toArray++B.toArray++Builtin.zeroCells z.cells (o-(c.length+l.length))).size=o*size:=by
    simp only[Array.size_append,List.size_toArray,size_zeroCells,sI,l2,W,<-Nat.add_mul];congr 1;omega
   have A':=(y3 h).move k e gen size c hk (E.toArray++B.toArray++Builtin.zeroCells z.cells (o-(c.length+l.length))) (c++l)
    (by rw[Y,dw];exact dq _ V) sC
    (λi j m x u ay a2 a3=>x2 E B (Builtin.zeroCells z.cells (o-(c.length+l.length))).toList rfl l2 W hs mU (R:=λx u=>b9 w.drew (own K β s.H) x u) (λi j m x u cF b2 eR=>(Bi i j m x u cF b2 eR).mono (Ext.drew _ _) λ_ _ h=>h)
     (λi j m x u cF b2 eR=>(hwr i j m x u cF b2 eR).mono (Ext.drew _ _) λ_ _ h=>h) i j m x u ay a2 (by simpa[<-Array.getElem?_toList] using a3))
   refine⟨_,A',?_⟩;have iJ:aS (β.put k (some (some w.heap.size,gen+1))) (w.drew.alloc (.cells (E.toArray++B.toArray++Builtin.zeroCells z.cells (o-(c.length+l.length))) e)) (own K (β.put k (some (some w.heap.size,gen+1))) (aE s.H k (some (.arr e (gen+1) size (c++l))))) (.aN k (gen+1) size 0 (c.length+l.length)) (.slice (some ⟨w.heap.size,0*size,none⟩) (c.length+l.length) o):=by
    have qs:=ie w.drew (.cells (E.toArray++B.toArray++Builtin.zeroCells z.cells (o-(c.length+l.length))) e);refine .aN k (gen+1) size 0 _ o w.heap.size (o*size) e O (bu _ _ _) aV ?_ (by rw[dn]) V hcm;have Bb:(w.drew.alloc (.cells (E.toArray++B.toArray++Builtin.zeroCells z.cells (o-(c.length+l.length))) e)).heap[w.heap.size]? =some (.cells (E.toArray++B.toArray++Builtin.zeroCells z.cells (o-(c.length+l.length))) e):=qs;unfold World.shape?;rw[Bb];simp only[Y]
   rw[fe] at iJ;exact iJ
  subst G;rcases ei bF cK with ⟨r,b,n,gr,rfl,L,hw,D,f,ch,k9⟩|⟨L,_,A7,rfl⟩
  rotate_left
  ·have l0:c=[]:=iW A7;subst l0;have C:=run_append_nil (P:=K.P) w t ty e i z hu M hi2 ⟨b2,off,none⟩ l.length N B (by rw[X];exact W) U Vk O (by simp at kE;omega);obtain⟨A,f1,f2⟩:=finish [] (grownCap w l.length 0 e) aV (by simpa using grownCap_ge w l.length 0 e) (grownCap_le_maxLen w _ 0 e (by unfold maxLen;simp at hm';omega)) λi j m x u h1 _ _=>by simp at h1
   simp only[List.length_nil,Nat.zero_add] at f1 f2⊢;exact⟨_,_,A,by rw[C];simp,f1,f2⟩
  subst L;rcases hh with ⟨g1,_⟩|⟨e4,p,g1,g2,g3,g4,g5⟩
  ·rw[cK] at g1;cases g1
  rw[cK] at g1;cases g1;have kF:p.size=r*size:=by
   unfold World.shape? at D;rw[g2] at D;simp at D;rw[<-f] at D;rw[dn] at D;exact D.2
  have oK:(p.toList.take (c.length*size)).length=c.length*size:=b1
  have jm: ∀(i j:Nat) (m:List T) (x:T) (u:Value),c[i]? =some m->m[j]? =some x->(p.toList.take (c.length*size))[i*size+j]? =some u->b9 w (own K β s.H) x u:=by
   intro i j m x u h1 h2 h3;rw[fJ] at h3;split at h3
   ·exact g5 i j m x u h1 h2 (by simpa using h3)
   cases h3
  simp only[Nat.zero_mul];by_cases F:c.length+l.length<=r
  ·have oE:c.length*size+B.length<=p.size:=by rw[W,kF,<-dM];exact dq _ F
   have C:=run_append_room (P:=K.P) w t ty e i hu M b c.length r p g2 ⟨b2,off,none⟩ l.length N B (by rw[X];exact W) U k' F (by rw[X];exact oE);rw[X] at C;have qt:(p.toList.take (c.length*size)++B++p.toList.drop (c.length*size+B.length)).toArray.size=p.size:=by
    simp;omega
   have hrel:=h.setRow k b (.inl ⟨_,cK⟩) p e g2 (p.toList.take (c.length*size)++B++p.toList.drop (c.length*size+B.length)).toArray qt (.arr e gen size (c++l)) (by rw[hk];simp)
    ⟨hl,Or.inr ⟨b,_,cK,setRow_heap _ _ _ _ _ _ g2,by rw[qt,kF,dw];exact dq _ F,sC,
     λi j m x u ay a2 a3=>by
      have h9:=x2 (p.toList.take (c.length*size)) B (p.toList.drop (c.length*size+B.length)) rfl oK W hs mU (R:=λx u=>b9 w (own K β s.H) x u) jm hwr i j m x u ay a2 (by simpa using a3);refine h9.mono ⟨rfl,rfl,rfl,aV,λkk _ hx=>setRow_other _ _ _ _ λe0=>hx ?_⟩ λ_ _ h=>h;subst e0;exact .inr ⟨k,by rw[hk];simp,.inl ⟨_,cK⟩⟩⟩⟩
   have sy:=hrel.bump k e gen size (c++l) (some b) cK (bu _ _ _);have AQ:aE (aE s.H k (some (.arr e gen size (c++l)))) k (some (.arr e (gen+1) size (c++l)))=aE s.H k (some (.arr e (gen+1) size (c++l))):=by
    funext j;by_cases hj:j=k
    ·subst hj;rw[bu,bu]
    rw[bx _ _ _ _ hj,bx _ _ _ _ hj,bx _ _ _ _ hj]
   simp only[AQ] at sy;refine⟨_,_,_,C,sy,?_⟩;have iJ:aS (β.put k (some (some b,gen+1))) (w.setRow b (p.toList.take (c.length*size)++B++p.toList.drop (c.length*size+B.length)).toArray) (own K (β.put k (some (some b,gen+1))) (aE s.H k (some (.arr e (gen+1) size (c++l))))) (.aN k (gen+1) size 0 (c.length+l.length)) (.slice (some ⟨b,0*size,none⟩) (c.length+l.length) r):=by
    refine .aN k (gen+1) size 0 _ r b (r*size) e O (bu _ _ _) (by simpa using hw) ?_ (by rw[dn]) F k9;unfold World.shape?;rw[setRow_heap _ _ _ _ _ _ g2];simp only[qt,kF]
   rw[fe] at iJ;exact iJ
  have holds: ∀j u,(p.toList.take (c.length*size))[j]? =some u->w.cell? ((⟨b,0,none⟩:Addr).add j)=some u:=by
   intro j u hj;rw[gQ,dn];rw[fJ] at hj;split at hj
   ·simp only[World.cell?,g2];simpa using hj
   cases hj
  have C:=run_append_grow (P:=K.P) w t ty e i z hu M hi2 ⟨b,0,none⟩ c.length r (p.toList.take (c.length*size)) (by rw[X];exact oK) holds ⟨b2,off,none⟩ l.length N B (by rw[X];exact W) U O O (growslice_fits O kE);obtain⟨A,f1,f2⟩:=finish (p.toList.take (c.length*size)) (grownCap w (c.length+l.length) r e) oK (grownCap_ge w _ r e) (grownCap_le_maxLen w _ r e hm) jm;exact⟨_,_,A,C,f1,f2⟩
 exact Q cn gB r G
section ops
variable {K:Ctx}{s:S}{d:Option Tmp}{ty:TypeId}{pos:String}{af:Array Edge}{g:Option (Nat×Bool)}
variable {t:TypeId}{u:TypeDesc}{z:Value}{gen size bytes:Nat}
def Rows(a:Nat)(b:List (List T)):Prop:= ∀c,c∈b->c.length=a
theorem Rows.nil(a:Nat):Rows a []:=λ_ h=>by simp at h
theorem Rows.map{k:Type}{f:k->List T}(l:List k)(h: ∀x,(f x).length=i):Rows i (l.map f):=λa b=>by obtain⟨x,_,rfl⟩:=fY.1 b;exact h x
theorem P1(k:Nat)(x y:Operand)(e:TypeId)(b c:List (List T))(A: ∀i,d=some i->Nat.blt i K.nt=true)(B:s.get x= .aN k gen size 0 b.length)(C:cX (s.get y) (.t (.aa c)))(D:s.H k=some (.arr e gen size b))
  (F:K.P.underlying t=some (.slice e)) (G:bL K.P e u z size bytes) (n:Nat.beq z.cells.size size=true) (L:Nat.blt 0 size=true) (R:Rows size b) (h:Rows size c)
  (W:(b.length+c.length)*bytes<=140737488355328) (I:b.length+c.length<=9223372036854775807):
  dj K ⟨d,.call {callee:= .builtin .append,args:= #[x,y],argTypes:= #[t,t]},ty,pos,af,g⟩ s
   (({s with H:=aE s.H k (some (.arr e (gen+1) size (b++c)))}:S).put d (.aN k (gen+1) size 0 (b.length+c.length))):=by
 intro M a w next Q o p
 have l:=o.get x;rw[B] at l;have q:=C _ _ _ _ (o.get y);have r:0<size:=by simpa[Nat.blt_eq] using L
 obtain⟨X,w',v,f,j,E⟩:=o.append k b c D ty F G (ca n) R h _ _ l (yC q h r) W (by unfold maxLen;omega);unfold Oper.wp;have m:(execOp a.eval ⟨d,.call {callee:= .builtin .append,args:= #[x,y],argTypes:= #[t,t]},ty,pos,af,g⟩).run K.P w= .ok (.value X) w':=by
  simp[execOp,resolve,invoke,builtin,f]
 rw[m];exact p v _ w' (j.put d A E)
theorem D8(Q:Nat->V)(k:Nat)(e:TypeId)(F:s.u k=false)(n: ∀(i q:Map) (w:World) (X R:Nat->Prop) (j:Nat) (u:Value),q k=some (none,1)->(∀v u,aS i w X v u->aS q w R v u)->aS i w X (s.t j) u->aS q w R (Q j) u):
  s.le K {t:=Q,H:=aE s.H k (some (.arr e 1 size [])),u:=aE s.u k true}:=by
 intro i a w h;have r:i k=none:=h.cW _ F;have o: ∀id x,i id=some x->i.put k (some (none,1)) id=some x:=λid x A=>by
  rw[dK _ _ _ _ (by intro e;subst e;rw[r] at A;cases A)];exact A
 have B:=cN.of o;have l: ∀id b,At (i.put k (some (none,1))) id b->id≠k/\At i id b:=λid b aQ=>by
  by_cases n:id=k
  ·subst n;rcases aQ with ⟨g,aQ⟩|aQ
   ·rw[iF] at aQ;cases aQ
   exact a7 aQ (h.du _ _ F)
  refine⟨n,?_⟩;rcases aQ with ⟨g,aQ⟩|aQ
  ·rw[dK _ _ _ _ n] at aQ;exact .inl ⟨g,aQ⟩
  exact .inr aQ
 have p: ∀b,own K (i.put k (some (none,1))) (aE s.H k (some (.arr e 1 size []))) b->own K i s.H b:=by
  rintro b (A|⟨id,y,C⟩)
  ·exact .inl A
  obtain⟨G,W⟩:=l id b C;rw[bx _ _ _ _ G] at y;exact .inr ⟨id,y,W⟩
 have L: ∀v u,aS i w (own K i s.H) v u->aS (i.put k (some (none,1))) w (own K (i.put k (some (none,1))) (aE s.H k (some (.arr e 1 size [])))) v u:=
  λv u f=>f.mono (Ext.refl _ _) (λb _=>p b) B (Shaped.refl _ _)
 refine⟨i.put k (some (none,1)),{h with base:= ?_,low:= ?_,cW:= ?_,du:= ?_,inj:= ?_,fresh:= ?_,heap:= ?_,cu:= ?_}⟩
 ·refine h.base.keep λid hid=>?_
  have:=h.low id hid;rw[dK _ _ _ _ (by intro e;subst e;rw[F] at this;cases this)]
 ·intro id hid;show aE s.u k true id=true;by_cases e:id=k
  ·subst e;exact bu _ _ _
  rw[bx _ _ _ _ e];exact h.low id hid
 ·intro id hid;have c:aE s.u k true id=false:=hid;by_cases e:id=k
  ·subst e;rw[bu] at c;cases c
  rw[bx _ _ _ _ e] at c;rw[dK _ _ _ _ e];exact h.cW id c
 ·intro id b hid;have c:aE s.u k true id=false:=hid;by_cases e:id=k
  ·subst e;rw[bu] at c;cases c
  rw[bx _ _ _ _ e] at c;exact h.du id b c
 ·intro id D b y C;exact h.inj id D b (l id b y).2 (l D b C).2
 ·intro id b aQ;exact h.fresh id b (l id b aQ).2
 ·intro id e' m;have m:aE s.H k (some (.arr e 1 size [])) id=some e':=m;show aE s.u k true id=true/\b4 _ _ (own K _ (aE s.H k (some (.arr e 1 size [])))) id e';by_cases n:id=k
  ·subst n;rw[bu] at m;cases m;exact⟨bu _ _ _,cL _,Or.inl ⟨bu _ _ _,rfl⟩⟩
  rw[bx _ _ _ _ n] at m;obtain⟨y,C⟩:=h.heap id e' m;exact⟨by rw[bx _ _ _ _ n];exact y,C.mono (Ext.refl _ _) (λb _=>p b) B (o id) (Shaped.refl _ _) λ_ _=>rfl⟩
 intro j;exact n i _ w _ _ j _ (bu _ _ _) L (h.cu j)
theorem FE{V:Map}{X j:Nat->Prop}{u:Value}(a:W k=some (none,1))(h:aS V w X (.t .en) u):aS W w j (.aN k 1 i 0 0) u:=by
 cases h with
 |t _ _ b=>cases b;exact .fB k 1 i (cL _) a
theorem QC(i k:Nat)(e:TypeId)(c:s.u k=false)(l:s.t i= .t .en):s.le K {t:=aE s.t i (.aN k 1 size 0 0),H:=aE s.H k (some (.arr e 1 size [])),u:=aE s.u k true}:=
 D8 _ k e c (λo m w X p j u n a h=>by
  by_cases b:j=i
  ·subst b;rw[bu];rw[l] at h;exact FE n h
  rw[bx _ _ _ _ b];exact a _ _ h)
theorem PE(i j k:Nat)(e:TypeId){a:List V}(r:s.u k=false)(v:s.t i= .agg a)(o:a[j]? =some (.t .en)):s.le K {t:=aE s.t i (.agg (a.set j (.aN k 1 size 0 0))),H:=aE s.H k (some (.arr e 1 size [])),u:=aE s.u k true}:=
 D8 _ k e r (λD x w X F y u A b h=>by
  by_cases l:y=i
  ·subst l;rw[bu];rw[v] at h;cases h with|agg _ B C p=>
   refine .agg _ B (by simpa using C) λi c u n q=>?_;by_cases m:i=j
   ·subst m;rw[hY (bt.1 o).1] at n;cases n;exact FE A (p i _ u o q)
   rw[km (Ne.symm m)] at n;exact b _ _ (p i c u n q)
  rw[bx _ _ _ _ l];exact b _ _ h)
theorem C1(R:Nat->V)(k:Nat)(e:TypeId)(c:List (List T))(W:Nat.ble K.cE k=true)(aD: ∀i,R i=s.t i\/(R i= .t (.aa c)/\s.t i= .aN k gen size 0 c.length))(X:s.H k=some (.arr e gen size c)):
  s.le K {t:=R,H:=aE s.H k none,u:=s.u}:=by
 intro A a w h;have Y:=eb W;obtain⟨q,B⟩:=hq (h.heap k _ X).2;have hl:=(h.heap k _ X).2.1;have p: ∀b,own K A (aE s.H k none) b->own K A s.H b:=by
  rintro b (f|⟨id,l,C⟩)
  ·exact .inl f
  by_cases hid:id=k
  ·subst hid;rw[bu] at l;exact a7 rfl l
  rw[bx _ _ _ _ hid] at l;exact .inr ⟨id,l,C⟩
 have D: ∀b,q=some b-> ¬own K A (aE s.H k none) b:=by
  rintro b N (f|⟨id,l,C⟩)
  ·subst N;obtain⟨kp,mq⟩:=h.gy b f;rcases(h.fresh k b (.inl ⟨_,B⟩)).1 with r|j0
   ·exact mq r
   omega
  subst N
  have:=h.inj _ _ _ C (.inl ⟨_,B⟩);subst this;rw[bu] at l;exact l rfl
 refine⟨A,{h with heap:= ?_,cu:= ?_}⟩
 ·intro id e' m;have m:aE s.H k none id=some e':=m;by_cases hid:id=k
  ·subst hid;rw[bu] at m;cases m
  rw[bx _ _ _ _ hid] at m;obtain⟨l,C⟩:=h.heap id e' m;exact⟨l,C.mono (Ext.refl _ _) (λb _=>p b) (cN.refl _) (λ_ h=>h) (Shaped.refl _ _) λ_ _=>rfl⟩
 intro j;show aS A w _ (R j) _;rcases aD j with v|⟨v,aD⟩
 rotate_left
 ·rw[v];have l:=h.cu j;rw[aD] at l;generalize a.tmps.getD j undef=y at l;rcases ei l B with ⟨E,b,n,gr,rfl,F,hw,fz,sx,ch,k9⟩|⟨F,_,I,rfl⟩
  ·subst F;rcases(h.heap k _ X).2.2 with ⟨G,_⟩|⟨e4,o,G,g2,g3,P,g5⟩
   ·rw[B] at G;cases G
   rw[B] at G;cases G;rw[fe];refine .t _ _ (.aa c b 0 size E (λi j=>o.getD (i*size+j) undef) hw (D b rfl) ch P (λi j aD v=>?_) λi j L x M U=>?_)
   ·have Q:=j3 (size:=size) aD v
    have:i*size+j<o.size:=O
    simp[World.cell?,g2,this]
   have aD:=(bt.1 M).1;have v:j<size:=by rw[<-P L (bA M)];exact(bt.1 U).1
   have Q:=j3 (size:=size) aD v;have r:i*size+j<o.size:=O
   have h6:=g5 i j L x o[i*size+j] M U (by simp[r])
   have:o.getD (i*size+j) undef=o[i*size+j]:=by simp[r]
   rw[this];exact h6.mono (Ext.refl _ _) λb _=>p b
  have:c=[]:=iW I;subst this;exact .t _ _ (.eH _ _)
 rw[v];exact(h.cu j).mono (Ext.refl _ _) (λb _=>p b) (cN.refl _) (Shaped.refl _ _)
theorem Mm(i k:Nat)(e:TypeId)(a:List (List T))(b:Nat.ble K.cE k=true)(h:s.t i= .aN k gen size 0 a.length)(l:s.H k=some (.arr e gen size a)):
  s.le K {t:=aE s.t i (.t (.aa a)),H:=aE s.H k none,u:=s.u}:=
 C1 _ k e a b (λj=>by
  by_cases c:j=i
  ·subst c;exact .inr ⟨bu _ _ _,h⟩
  exact .inl (bx _ _ _ _ c)) l
theorem MY(x y:Operand)(C i c:Nat)(e:TypeId)(o:List (List T))(l:List T)(m:List T)(hx:s.get x= .cd C gen size i c){v:V}(hle:cX (s.get y) v)(hy:v.cs=m.map .t)(jo:v.val=true)(X:s.H C=some (.arr e gen size o)){A:Nat}(eV:bL K.P t u z A bytes)
  (B:o[i]? =some l) (hs:m.length=A) (ch:c+A<=size):
  dj K ⟨none,.store t x y,ty,pos,af,g⟩ s {s with H:=aE s.H C (some (.arr e gen size (o.set i (l.take c++m++l.drop (c+m.length)))))}:=by
 intro β a w next Q R hk
 have f:=R.get x;rw[hx] at f;obtain⟨q,cK⟩:=hq (R.heap C _ X).2;obtain⟨b,hi,oM⟩:=lh f cK;subst hi;have aQ:=cK;have aD:=(bt.1 B).1;rcases(R.heap C _ X).2.2 with ⟨_,E⟩|⟨e4,p,h1,E,h3,h4,h5⟩
 ·rw[E] at aD;simp at aD
 rw[aQ] at h1;cases h1;obtain⟨c1,c2⟩:=(hle _ _ _ _ (R.get y)).cells jo;rw[hy] at c1 c2;have I:(a.eval y).cells.size=A:=by rw[c1];simpa using hs
 have hrl:l.length=size:=h4 l (bA B);have XU:i*size+size<=p.size:=by
  have:(i+1)*size<=o.length*size:=dq _ aD;rw[dM] at this;omega
 have M: ∀e∈(a.eval y).cells.toList,e.oneCell'=true:=by
  intro e he;obtain⟨j,hj⟩:=hz.1 he;have N:(a.eval y).cells[j]? =some e:=by simpa using hj
  have U:j<m.length:=by have:=(gw.1 N).1;rw[c1] at this;simpa using this
  exact(c2 j (.t m[j]) e (by simp[U]) N).gX rfl
 unfold Oper.wp;have Y:=m4 eV w b (i*size+c) p e (a.eval y) E I O M;have G:(execOp a.eval ⟨none,.store t x y,ty,pos,af,g⟩).run K.P w= .ok .skip (w.setRow b (p.toList.take (i*size+c)++(a.eval y).cells.toList++p.toList.drop (i*size+c+(a.eval y).cells.toList.length)).toArray):=by
  simp only[execOp,oM,Instr.storeAt,Instr.sureAddr,Sem.run_bind,Sem.run_pure,Result.andThen_ok,Y]
 rw[G];have la:(a.eval y).cells.toList.length=m.length:=by simp[c1]
 have D:(p.toList.take (i*size+c)++(a.eval y).cells.toList++p.toList.drop (i*size+c+(a.eval y).cells.toList.length)).length=p.size:=by
  simp[I];omega
 refine hk β _ _ (Rel.setRow R C b (.inl ⟨_,aQ⟩) p e E _ (by simpa using D) (.arr e gen size (o.set i (l.take c++m++l.drop (c+m.length)))) (by rw[X];simp) ?_);have lU:own K β s.H b:= .inr ⟨C,by rw[X];simp,.inl ⟨_,aQ⟩⟩;have L: ∀x u,b9 w (own K β s.H) x u->b9 (w.setRow b (p.toList.take (i*size+c)++(a.eval y).cells.toList++p.toList.drop (i*size+c+(a.eval y).cells.toList.length)).toArray) (own K β s.H) x u:=by
  intro v u bF;exact bF.mono ⟨rfl,rfl,rfl,aV,λk _ hx=>setRow_other _ _ _ _ λe=>hx (e▸lU)⟩ λ_ _ h=>h
 have Hz:(l.take c++m++l.drop (c+m.length)).length=size:=b1
 refine⟨(R.heap C _ X).2.1,Or.inr ⟨b,_,aQ,setRow_heap _ _ _ _ _ _ E,?_,?_,?_⟩⟩
 ·simp only[List.size_toArray,D,List.length_set];exact h3
 ·intro r Vw;rcases re Vw with h|h
  ·exact h4 r h
  rw[h];exact Hz
 intro n j F gx W ay a2 a3;apply L;have a3:(p.toList.take (i*size+c)++(a.eval y).cells.toList++p.toList.drop (i*size+c+(a.eval y).cells.toList.length))[n*size+j]? =some W:=by simpa using a3
 simp only[List.getElem?_append,List.length_append,List.length_take,List.getElem?_take,List.getElem?_drop,Array.length_toList] at a3;rw[show min (i*size+c) p.size=i*size+c by omega,show(a.eval y).cells.size=m.length by simpa using la] at a3;by_cases sv:n=i
 ·subst sv;rw[hY aD] at ay;cases ay;have hjs:j<size:=by rw[<-Hz];exact(bt.1 a2).1
  simp only[List.getElem?_append,List.length_append,List.length_take,List.getElem?_take,List.getElem?_drop,hrl] at a2;rw[show min c size=c by omega] at a2;by_cases cF:j<c
  ·rw[bn O,bn cF,bn cF] at a2;rw[bn O,bn O,bn O] at a3;exact h5 n j l gx W B a2 (by simpa using a3)
  by_cases b2:j<c+m.length
  ·rw[bn O,br cF] at a2;rw[bn O,br O] at a3;rw[show n*size+j-(n*size+c)=j-c by omega] at a3;have h9:=c2 (j-c) (.t gx) W (by rw[dT,a2];rfl) (by simpa using a3);cases h9 with|t _ _ h=>exact h
  rw[br O] at a2;rw[br O] at a3;rw[show c+m.length+(j-(c+m.length))=j by omega] at a2;rw[show n*size+c+m.length+(n*size+j-(n*size+c+m.length))=n*size+j by omega] at a3;exact h5 n j l gx W B a2 (by simpa using a3)
 rw[km (Ne.symm sv)] at ay;have hjs:j<size:=by rw[<-h4 F (bA ay)];exact(bt.1 a2).1
 have hold:p[n*size+j]? =some W:=by
  rcases Nat.lt_or_ge n i with U|j0
  ·have:n*size+size<=i*size:=by have:=dq size (O:n+1<=i);rw[dM] at this;omega
   rw[bn O,bn O,bn O] at a3;simpa using a3
  have:i*size+size<=n*size:=by have:=dq size (O:i+1<=n);rw[dM] at this;omega
  rw[br O] at a3;rw[show i*size+c+m.length+(n*size+j-(i*size+c+m.length))=n*size+j by omega] at a3;simpa using a3
 exact h5 n j F gx W ay a2 hold
end ops
end Go.Lift
