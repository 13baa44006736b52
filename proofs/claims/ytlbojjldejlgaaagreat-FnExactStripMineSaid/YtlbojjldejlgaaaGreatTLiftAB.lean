/- Foundations of a value-level calculus for walks: values without addresses, and how they stand to the model's values in a world. -/
import Derived.Tactics
import Derived.Deep.Quiet
import Derived.Laws.World
import Derived.Laws.Sem
import Derived.WalkKit
namespace Go.Lift
open Go
abbrev cC.{u}:=@List.getElem?_eq_some_iff.{u}
abbrev dH.{u}:=@List.getElem?_eq_getElem.{u}
abbrev dD.{u}:=@List.mem_of_getElem?.{u}
abbrev fV:=@Nat.eq_of_beq_eq_true
abbrev jL:=@Nat.mul_le_mul_right
abbrev nF.{u}:=@List.length_append.{u}
abbrev rZ:=@Nat.le_of_ble_eq_true
abbrev mH.{u}:=@List.length_take.{u}
abbrev r9.{u}:=@List.mem_cons_of_mem.{u}
abbrev I1.{u}:=@List.getElem?_append_right.{u}
abbrev I0.{u}:=@List.getElem?_append_left.{u}
abbrev jJ:=@Nat.add_mul
abbrev uX.{u}:=@List.mem_cons_self.{u}
abbrev l4:=@Nat.zero_add
abbrev kF:=@Nat.le_refl
abbrev qE.{u}:=@List.mem_cons.{u}
abbrev wQ.{u}:=@List.take_length.{u}
abbrev zG.{u,v}:=@List.getElem?_map.{u,v}
abbrev D9.{u}:=@List.getElem?_drop.{u}
abbrev D8.{u}:=@List.getElem?_take.{u}
abbrev vAu.{u}:=@List.getElem?_set_self.{u}
abbrev vAv.{u}:=@List.eq_nil_of_length_eq_zero.{u}
abbrev vAw.{u}:=@List.mem_of_mem_take.{u}
abbrev vAx.{u}:=@Array.getElem?_eq_some_iff.{u}
abbrev r8:=@Nat.le_trans
abbrev B6.{u}:=@List.mem_append.{u}
abbrev R5.{u}:=@List.take_add_one.{u}
abbrev vAB.{u}:=@List.mem_of_mem_drop.{u}
abbrev I2.{u,v}:=@List.length_map.{u,v}
abbrev vAD:=@Int.toNat_natCast
abbrev X4.{u}:=@List.length_drop.{u}
abbrev vAF.{u}:=@List.getElem?_of_mem.{u}
abbrev vAG.{u}:=@List.mem_iff_getElem?.{u}
abbrev vAH.{u}:=@List.all_eq_true.{u}
abbrev vAI.{u}:=@Array.getElem?_eq_getElem.{u}
abbrev vAJ.{u}:=@List.all_eq_false.{u}
abbrev vAK.{u}:=@List.getElem?_set_ne.{u}
abbrev vAL.{u}:=@Array.getD_eq_getD_getElem?.{u}
abbrev F7:=@Nat.zero_mul
abbrev vAN:=@Nat.lt_of_lt_of_le
abbrev vAO.{u}:=@List.append_assoc.{u}
abbrev vAP.{u,v}:=@List.map_append.{u,v}
abbrev vAQ.{u}:=@List.take_of_length_le.{u}
abbrev vAR.{u}:=@List.mem_append_left.{u}
abbrev vAS:=@Bool.true_and
abbrev vAT.{u,v}:=@List.mem_map.{u,v}
abbrev X3:=@Int.le_refl
abbrev vAV:=@Nat.lt_succ_self
abbrev vAW:=@Bool.and_false
abbrev vAX.{u}:=@List.mem_append_right.{u}
abbrev vAY:=@Nat.lt_of_not_le
abbrev vAZ.{u}:=@List.all_eq_not_any_not.{u}
abbrev vBa.{u}:=@List.mem_replicate.{u}
abbrev vBb.{u}:=@List.mem_or_eq_of_mem_set.{u}
abbrev vBc:=@Bool.and_assoc
abbrev vBd.{u}:=@List.take_append_of_le_length.{u}
abbrev vBe.{u}:=@Array.length_toList.{u}
abbrev vBf.{u,v}:=@List.flatMap_append.{u,v}
abbrev vBg.{u}:=@List.getElem?_replicate.{u}
abbrev vBh.{u}:=@List.getD_eq_getElem?_getD.{u}
abbrev vBi.{u}:=@List.length_eq_one_iff.{u}
abbrev vBj:=@Int.mul_nonneg
abbrev vBk:=@Nat.sub_self
abbrev vBl:=@Nat.div_lt_iff_lt_mul
abbrev vBm.{u}:=@List.set_append_right.{u}
abbrev vBn.{u}:=@Array.getElem?_replicate.{u}
abbrev vBo.{u}:=@List.getElem_mem.{u}
abbrev vBp:=@Nat.add_zero
abbrev vBq:=@Nat.add_assoc
abbrev vBr.{u}:=@List.exists_mem_of_ne_nil.{u}
abbrev vBs.{u}:=@List.getElem?_take_of_lt.{u}
abbrev vBt.{u}:=@List.append_nil.{u}
abbrev vBu.{u,v}:=@Option.bind_eq_some_iff.{u,v}
abbrev vBv.{u}:=@List.any_eq_true.{u}
abbrev vBw.{u}:=@List.drop_append_of_le_length.{u}
abbrev vBx:=@Bool.and_eq_true
abbrev vBy.{u}:=@List.drop_length.{u}
abbrev vBz:=@Int.mul_le_mul
abbrev vBA.{u}:=@List.mem_zipIdx_iff_getElem?.{u}
abbrev vBB.{u}:=@List.set_cons_zero.{u}
abbrev vBC:=@Nat.not_lt_zero
abbrev vBD.{u}:=@List.getElem?_eq_none.{u}
abbrev vBE.{u}:=@Array.getElem?_toList.{u}
abbrev vBF.{u}:=@List.take_append_drop.{u}
abbrev vBG:=@Nat.mul_le_mul
abbrev vBH:=@Int.toNat_of_nonneg
abbrev vBI:=@Nat.min_eq_left
abbrev vBJ:=@Nat.sub_mul
abbrev vBK.{u}:=@Ne.symm.{u}
inductive T where
  |bool (b:Bool)
  |int (k:IntKind) (n:Int)
  |str (s:List UInt8)
  |sl (rows:List (List T))
  |nilS
  |nilP
  |nilI
  |nilF
  |err
  deriving Inhabited
inductive V where
  |t (x:T)
  |agg (cs:List V)
  |tup (vs:List V)
  |ref (id off:Nat)
  |tp (cells:List T)
  |msl (id gen size off len:Nat)
  |eref (id gen size i off:Nat)
  |fn (f:FuncId) (caps:List V)
  |junk
  deriving Inhabited
structure Nd where
  ty:TypeId
  size:Nat
  kids:List (Nat×Nat)
def Z5:List (Nat×Nat)→Nat→Option Nat
  | [],_=>none
  |p::l,j=>bif Nat.beq p.1 j then some p.2 else Z5 l j
def Nd.kid(d:Nd)(j:Nat):Option Nat:=Z5 d.kids j
def nd0:Nd:=⟨0,0,[]⟩
def ndOf(Γ:List Nd)(m:Nat):Nd:=Γ.getD m nd0
inductive E where
  |cells (cs:List V)
  |arr (ty:TypeId) (gen size:Nat) (rows:List (List T))
  |tree (Γ:List Nd) (m gen:Nat) (rows:List (List T)) (open_:List (Nat×Nat×V))
structure Map where
  f:Nat→Option (Option Nat×Nat)
  n:Nat→Nat→Prop
instance:CoeFun Map (fun _=>Nat→Option (Option Nat×Nat)):=⟨Map.f⟩
def At(β:Map)(id b:Nat):Prop:=(∃g,β id=some (some b,g))∨β.n id b
def MLe(β β':Map):Prop:= ∀id q g,β id=some (q,g)→β' id=some (q,g)∨(1≤g∧ ∃q' g',β' id=some (q',g')∧g<g')
theorem MLe.refl(β:Map):MLe β β:=fun _ _ _ h=> .inl h
theorem MLe.of{β β':Map}(h: ∀id x,β id=some x→β' id=some x):MLe β β':=fun _ _ _ hx=> .inl (h _ _ hx)
structure Ext (X:Nat→Prop) (w w':World):Prop where
  os:w'.os=w.os
  tape:w'.tape=w.tape
  output:w'.output=w.output
  size:w.heap.size≤w'.heap.size
  keep: ∀b,b<w.heap.size→ ¬X b→w'.heap[b]? =w.heap[b]?
theorem Ext.refl(X:Nat→Prop)(w:World):Ext X w w:=⟨rfl,rfl,rfl,kF _,fun _ _ _=>rfl⟩
theorem Ext.trans{X:Nat→Prop}{a b c:World}(h:Ext X a b)(k:Ext X b c):Ext X a c:=
  ⟨k.os.trans h.os,k.tape.trans h.tape,k.output.trans h.output,r8 h.size k.size,
   fun i hi hx=>(k.keep i (vAN hi h.size) hx).trans (h.keep i hi hx)⟩
theorem Ext.trans'{X:Nat→Prop}{a b c:World}(h:Ext X a b)(k:Ext (fun i=> ¬(i<a.heap.size∧ ¬X i)) b c):Ext X a c:=
  ⟨k.os.trans h.os,k.tape.trans h.tape,k.output.trans h.output,r8 h.size k.size,
   fun i hi hx=>(k.keep i (vAN hi h.size) fun hn=>hn ⟨hi,hx⟩).trans (h.keep i hi hx)⟩
theorem Ext.weaken{X Y:Nat→Prop}{a b:World}(h:Ext X a b)(hs: ∀i,i<a.heap.size→X i→Y i):Ext Y a b:=
  ⟨h.os,h.tape,h.output,h.size,fun i hi hx=>h.keep i hi fun hy=>hx (hs i hi hy)⟩
theorem Ext.drew(X:Nat→Prop)(w:World):Ext X w w.drew:=⟨rfl,rfl,rfl,kF _,fun _ _ _=>rfl⟩
theorem nM(w:World)(o:Obj)(k:Nat)(h:k<w.heap.size):(w.alloc o).heap[k]? =w.heap[k]? :=by show(w.heap.push o)[k]? =_;rw [Array.getElem?_push,if_neg (by omega)]
theorem bG(w:World)(o:Obj):(w.alloc o).heap[w.heap.size]? =some o:=by show(w.heap.push o)[w.heap.size]? =_;simp
theorem Ext.alloc(X:Nat→Prop)(w:World)(o:Obj):Ext X w (w.alloc o):=
  ⟨rfl,rfl,rfl,by simp,fun k hk _=>nM _ _ _ hk⟩
theorem eV{w w':World}{b:Nat}(h:w'.heap[b]? =w.heap[b]?):w'.shape? b=w.shape? b:=by unfold World.shape?;rw [h]
def Shaped(_β:Map)(w w':World):Prop:= ∀b,b<w.heap.size→w'.shape? b=w.shape? b
theorem Shaped.refl(β:Map)(w:World):Shaped β w w:=fun _ _=>rfl
theorem dA{β:Map}{w w':World}(e:Ext (fun _=>False) w w'):Shaped β w w':=fun b hb=>eV (e.keep b hb fun h=>h)
theorem rE{w w':World}{a:Addr}(h:w'.heap[a.block]? =w.heap[a.block]?):w'.cell? a=w.cell? a:=by unfold World.cell?;rw [h]
inductive RT (w:World) (X:Nat→Prop):T→Value→Prop where
  |bool (b:Bool):RT w X (.bool b) (.bool b)
  |int (k:IntKind) (n:Int):RT w X (.int k n) (.int k n)
  |str (l:List UInt8):RT w X (.str l) (.string ⟨l.toArray⟩)
  |sl0 (a:Option Addr) (cap:Nat):RT w X (.sl []) (.slice a 0 cap)
  |sl (rows:List (List T)) (b off size cap:Nat) (f:Nat→Nat→Value) (hb:b<w.heap.size) (hX: ¬X b) (hcap:rows.length≤cap)
      (hsz: ∀row,row∈rows→row.length=size)
      (hc: ∀i j,i<rows.length→j<size→w.cell? ⟨b,off+i*size+j,none⟩=some (f i j))
      (hr: ∀(i j:Nat) (row:List T) (x:T),rows[i]? =some row→row[j]? =some x→RT w X x (f i j)):
      RT w X (.sl rows) (.slice (some ⟨b,off,none⟩) rows.length cap)
  |nilS:RT w X .nilS (.slice none 0 0)
  |nilP:RT w X .nilP (.pointer none)
  |nilI:RT w X .nilI .nilIface
  |nilF:RT w X .nilF .nilFunc
  |err (t:TypeId) (v:Value):RT w X .err (.iface t v)
theorem RT.mono{w w':World}{X X':Nat→Prop}{x:T}{v:Value}(h:RT w X x v)(e:Ext X w w')(hX: ∀b,b<w.heap.size→X' b→X b):RT w' X' x v:=by
  induction h with
  |bool b=>exact .bool b
  |int k n=>exact .int k n
  |str l=>exact .str l
  |sl0 a cap=>exact .sl0 a cap
  |sl rows b off size cap f hb hX' hcap hsz hc _ ih=>
    exact .sl rows b off size cap f (vAN hb e.size) (fun h=>hX' (hX b hb h)) hcap hsz
      (fun i j hi hj=>by rw [rE (w:=w) (e.keep b hb hX')];exact hc i j hi hj) (fun i j row x h1 h2=>ih i j row x h1 h2)
  |nilS=>exact .nilS
  |nilP=>exact .nilP
  |nilI=>exact .nilI
  |nilF=>exact .nilF
  |err t v=>exact .err t v
inductive RV (β:Map) (w:World) (X:Nat→Prop):V→Value→Prop where
  |t (x:T) (v:Value):RT w X x v→RV β w X (.t x) v
  |agg (cs:List V) (us:Array Value) (hl:us.size=cs.length) (h: ∀(i:Nat) c u,cs[i]? =some c→us[i]? =some u→RV β w X c u):RV β w X (.agg cs) (.agg us)
  |tup (cs:List V) (us:Array Value) (hl:us.size=cs.length) (h: ∀(i:Nat) c u,cs[i]? =some c→us[i]? =some u→RV β w X c u):RV β w X (.tup cs) (.tuple us)
  |ref (id off b:Nat) (hb:β id=some (some b,0)):RV β w X (.ref id off) (.pointer (some ⟨b,off,none⟩))
  |tp (cells:List T) (b off:Nat) (f:Nat→Value) (hb:b<w.heap.size) (hX: ¬X b)
      (hc: ∀j,j<cells.length→w.cell? ⟨b,off+j,none⟩=some (f j))
      (hr: ∀(j:Nat) (x:T),cells[j]? =some x→RT w X x (f j)):RV β w X (.tp cells) (.pointer (some ⟨b,off,none⟩))
  |msl (id gen size off len cap b n:Nat) (ty:TypeId) (hg:1≤gen) (hb:β id=some (some b,gen)) (hw:b<w.heap.size) (hs:w.shape? b=some (ty,n)) (hn:(off+cap)*size=n) (hl:len≤cap) (hm:cap≤maxLen):
      RV β w X (.msl id gen size off len) (.slice (some ⟨b,off*size,none⟩) len cap)
  |msl0 (id gen size:Nat) (hg:1≤gen) (hb:β id=some (none,gen)):RV β w X (.msl id gen size 0 0) (.slice none 0 0)
  |mslOld (id gen size off len:Nat) (v:Value) (q:Option Nat) (g:Nat) (ho:v.oneCell'=true) (hb:β id=some (q,g)) (hg:gen<g):RV β w X (.msl id gen size off len) v
  |eref (id gen size i off b:Nat) (hg:1≤gen) (hb:β id=some (some b,gen)):RV β w X (.eref id gen size i off) (.pointer (some ⟨b,i*size+off,none⟩))
  |erefOld (id gen size i off:Nat) (v:Value) (q:Option Nat) (g:Nat) (ho:v.oneCell'=true) (hb:β id=some (q,g)) (hg:gen<g):RV β w X (.eref id gen size i off) v
  |fn (f:FuncId) (cs:List V) (us:Array Value) (hl:us.size=cs.length) (h: ∀(i:Nat) c u,cs[i]? =some c→us[i]? =some u→RV β w X c u):
      RV β w X (.fn f cs) (.func (.func f) #[] us)
  |junk (v:Value):RV β w X .junk v
theorem RV.mono{β β':Map}{w w':World}{X X':Nat→Prop}{x:V}{v:Value}(h:RV β w X x v)(e:Ext X w w')(hX: ∀b,b<w.heap.size→X' b→X b)
    (hβ:MLe β β') (hsh:Shaped β w w'):RV β' w' X' x v:=by
  induction h with
  |t x v h=>exact .t x v (h.mono e hX)
  |agg cs us hl _ ih=>exact .agg cs us hl ih
  |tup cs us hl _ ih=>exact .tup cs us hl ih
  |ref id off b hb=>
    rcases hβ _ _ _ hb with h|⟨h,_⟩
    · exact .ref id off b h
    · omega
  |tp cells b off f hb hX' hc hr=>
    exact .tp cells b off f (vAN hb e.size) (fun h=>hX' (hX b hb h)) (fun j hj=>by rw [rE (w:=w) (e.keep b hb hX')];exact hc j hj)
      (fun j x h=>(hr j x h).mono e hX)
  |msl id gen size off len cap b n ty hg hb hw hs hn hl hm=>
    rcases hβ _ _ _ hb with h|⟨_,q',g',h,hlt⟩
    · exact .msl id gen size off len cap b n ty hg h (vAN hw e.size) (by rw [hsh b hw];exact hs) hn hl hm
    · exact .mslOld id gen size off len _ q' g' rfl h hlt
  |msl0 id gen size hg hb=>
    rcases hβ _ _ _ hb with h|⟨_,q',g',h,hlt⟩
    · exact .msl0 id gen size hg h
    · exact .mslOld id gen size 0 0 _ q' g' rfl h hlt
  |mslOld id gen size off len v q g ho hb hg=>
    rcases hβ _ _ _ hb with h|⟨_,q',g',h,hlt⟩
    · exact .mslOld id gen size off len v q g ho h hg
    · exact .mslOld id gen size off len v q' g' ho h (by omega)
  |eref id gen size i off b hg hb=>
    rcases hβ _ _ _ hb with h|⟨_,q',g',h,hlt⟩
    · exact .eref id gen size i off b hg h
    · exact .erefOld id gen size i off _ q' g' rfl h hlt
  |erefOld id gen size i off v q g ho hb hg=>
    rcases hβ _ _ _ hb with h|⟨_,q',g',h,hlt⟩
    · exact .erefOld id gen size i off v q g ho h hg
    · exact .erefOld id gen size i off v q' g' ho h (by omega)
  |fn f cs us hl _ ih=>exact .fn f cs us hl ih
  |junk v=>exact .junk v
inductive RO (Γ:List Nd) (w:World) (X:Nat→Prop):Option Nat→T→Value→(Nat→Prop)→Prop where
  |frz (x:T) (v:Value) (N:Nat→Prop) (h:RT w X x v) (hN: ∀c,¬N c):RO Γ w X none x v N
  |nil (m:Nat) (N:Nat→Prop) (hN: ∀c,¬N c):RO Γ w X (some m) (.sl []) (.slice none 0 0) N
  |own (m:Nat) (rows:List (List T)) (b cap:Nat) (us:Array Value) (B:Nat→Nat→Nat→Prop) (N:Nat→Prop)
      (hw:w.heap[b]? =some (.cells us (ndOf Γ m).ty (0,0))) (hs:us.size=cap*(ndOf Γ m).size) (hm:cap≤maxLen) (hl:rows.length≤cap)
      (hsz: ∀row,row∈rows→row.length=(ndOf Γ m).size)
      (hr: ∀(i j:Nat) (row:List T) (x:T) (u:Value),rows[i]? =some row→row[j]? =some x→us[i*(ndOf Γ m).size+j]? =some u→RO Γ w X ((ndOf Γ m).kid j) x u (B i j))
      (hB: ∀i j c,B i j c→i<rows.length∧j<(ndOf Γ m).size∧c≠b)
      (hd: ∀i j i' j' c,B i j c→B i' j' c→i=i'∧j=j')
      (hN: ∀c,N c↔c=b∨ ∃i j,B i j c):
      RO Γ w X (some m) (.sl rows) (.slice (some ⟨b,0,none⟩) rows.length cap) N
theorem RO.mono{Γ:List Nd}{w w':World}{X X':Nat→Prop}{m:Option Nat}{x:T}{v:Value}{N:Nat→Prop}(h:RO Γ w X m x v N)(e:Ext X w w')(hX: ∀b,b<w.heap.size→X' b→X b)
    (hs: ∀b,N b→w'.heap[b]? =w.heap[b]?):RO Γ w' X' m x v N:=by
  induction h with
  |frz x v N h hN=>exact .frz x v N (h.mono e hX) hN
  |nil m N hN=>exact .nil m N hN
  |own m rows b cap us B N hw hsz' hm hl hsz hr hB hd hN ih=>
    refine .own m rows b cap us B N ?_ hsz' hm hl hsz (fun i j row x u h1 h2 h3=>ih i j row x u h1 h2 h3 fun c hc=>hs c ((hN c).2 (.inr ⟨i,j,hc⟩))) hB hd hN;rw [hs b ((hN b).2 (.inl rfl))];exact hw
theorem RO.iff{Γ:List Nd}{w:World}{X:Nat→Prop}{m:Option Nat}{x:T}{v:Value}{N N':Nat→Prop}(h:RO Γ w X m x v N)(hN': ∀c,N' c↔N c):RO Γ w X m x v N':=by
  cases h with
  |frz _ _ _ h hN=>exact .frz _ _ _ h (fun c hc=>hN c ((hN' c).1 hc))
  |nil _ _ hN=>exact .nil _ _ (fun c hc=>hN c ((hN' c).1 hc))
  |own m rows b cap us B _ hw hs hm hl hsz hr hB hd hN=>exact .own m rows b cap us B _ hw hs hm hl hsz hr hB hd fun c=>(hN' c).trans (hN c)
theorem RO.lt{Γ:List Nd}{w:World}{X:Nat→Prop}{m:Option Nat}{x:T}{v:Value}{N:Nat→Prop}(h:RO Γ w X m x v N): ∀c,N c→c<w.heap.size:=by
  induction h with
  |frz _ _ _ _ hN=>exact fun c hc=>absurd hc (hN c)
  |nil _ _ hN=>exact fun c hc=>absurd hc (hN c)
  |own m rows b cap us B N hw hs hm hl hsz hr hB hd hN ih=>
    intro c hc;rcases(hN c).1 hc with rfl|⟨i,j,hb⟩
    · exact(vAx.1 hw).1
    · obtain⟨h1,h2,_⟩:=hB i j c hb;have h3:=hsz _ (vBo h1);have hi:i*(ndOf Γ m).size+j<us.size:=by
        rw [hs]
        have:(i+1)*(ndOf Γ m).size≤cap*(ndOf Γ m).size:=jL _ (by omega);rw [jJ] at this;omega
      exact ih i j _ (rows[i][j]'(by omega)) _ (dH h1) (dH (by omega)) (vAI hi) c hb
theorem RO.shed{Γ:List Nd}{w:World}{X X':Nat→Prop}{m:Option Nat}{x:T}{v:Value}{N:Nat→Prop}(h:RO Γ w X m x v N)(hX: ∀b,X' b→X b)(hN': ∀b,N b→ ¬X' b):RT w X' x v:=by
  induction h with
  |frz x v N h hN=>exact h.mono (Ext.refl _ _) (fun b _=>hX b)
  |nil m N hN=>exact .sl0 _ _
  |own m rows b cap us B N hw hs hm hl hsz hr hB hd hN ih=>
    refine .sl rows b 0 (ndOf Γ m).size cap (fun i j=>us.getD (i*(ndOf Γ m).size+j) undef) (vAx.1 hw).1 (hN' b ((hN b).2 (.inl rfl))) hl hsz (fun i j hi hj=>?_) fun i j row x h1 h2=>?_
    · have hlt:i*(ndOf Γ m).size+j<us.size:=by
        rw [hs]
        have:(i+1)*(ndOf Γ m).size≤cap*(ndOf Γ m).size:=jL _ (by omega);rw [jJ] at this;omega
      simp [World.cell?,hw,hlt]
    · have hi:=(cC.1 h1).1;have hj:j<(ndOf Γ m).size:=by rw [←hsz row (dD h1)];exact(cC.1 h2).1
      have hlt:i*(ndOf Γ m).size+j<us.size:=by
        rw [hs]
        have:(i+1)*(ndOf Γ m).size≤cap*(ndOf Γ m).size:=jL _ (by omega);rw [jJ] at this;omega
      have he:us.getD (i*(ndOf Γ m).size+j) undef=us[i*(ndOf Γ m).size+j]:=by simp [hlt]
      show RT w X' x (us.getD (i*(ndOf Γ m).size+j) undef);rw [he];exact ih i j row x _ h1 h2 (vAI hlt) fun c hc=>hN' c ((hN c).2 (.inr ⟨i,j,hc⟩))
def Cell(Γ:List Nd)(m:Nat)(hs:List (Nat×Nat×V))(β:Map)(w:World)(X:Nat→Prop)(i j:Nat)(x:T)(u:Value)(N:Nat→Prop):Prop:=
  (∀v,(i,j,v)∈hs→RV β w X v u∧ ∀c,¬N c)∧((∀v,(i,j,v)∉hs)→RO Γ w X ((ndOf Γ m).kid j) x u N)
theorem Cell.mono{Γ:List Nd}{m:Nat}{hs:List (Nat×Nat×V)}{β β':Map}{w w':World}{X X':Nat→Prop}{i j:Nat}{x:T}{u:Value}{N:Nat→Prop}(h:Cell Γ m hs β w X i j x u N)
    (e:Ext X w w') (hX: ∀b,b<w.heap.size→X' b→X b) (hβ:MLe β β') (hsh:Shaped β w w') (hs': ∀b,N b→w'.heap[b]? =w.heap[b]?):Cell Γ m hs β' w' X' i j x u N:=
  ⟨fun v hv=>⟨(h.1 v hv).1.mono e hX hβ hsh,(h.1 v hv).2⟩,fun hn=>(h.2 hn).mono e hX hs'⟩
theorem Cell.none{Γ:List Nd}{m:Nat}{β:Map}{w:World}{X:Nat→Prop}{i j:Nat}{x:T}{u:Value}{N:Nat→Prop}(h:Cell Γ m [] β w X i j x u N):RO Γ w X ((ndOf Γ m).kid j) x u N:=h.2 fun _ hv=>List.not_mem_nil hv
theorem Cell.of{Γ:List Nd}{m:Nat}{β:Map}{w:World}{X:Nat→Prop}{i j:Nat}{x:T}{u:Value}{N:Nat→Prop}(h:RO Γ w X ((ndOf Γ m).kid j) x u N):Cell Γ m [] β w X i j x u N:=⟨fun _ hv=>absurd hv List.not_mem_nil,fun _=>h⟩
def RE(β:Map)(w:World)(X:Nat→Prop)(id:Nat):E→Prop
  | .cells cs=> ∃(b:Nat) (us:Array Value) (ty:TypeId),β id=some (some b,0)∧w.heap[b]? =some (.cells us ty (0,0))∧us.size=cs.length∧
      ∀(i:Nat) c u,cs[i]? =some c→us[i]? =some u→RV β w X c u
  | .arr ty gen size rows=>1≤gen∧((β id=some (none,gen)∧rows=[])∨ ∃(b:Nat) (us:Array Value),β id=some (some b,gen)∧w.heap[b]? =some (.cells us ty (0,0))∧
      rows.length*size≤us.size∧(∀row,row∈rows→row.length=size)∧
      ∀(i j:Nat) (row:List T) (x:T) (u:Value),rows[i]? =some row→row[j]? =some x→us[i*size+j]? =some u→RT w X x u)
  | .tree Γ m gen rows hs=>1≤gen∧((β id=some (none,gen)∧rows=[]∧(∀c,¬β.n id c))∨ ∃(b:Nat) (us:Array Value) (B:Nat→Nat→Nat→Prop),β id=some (some b,gen)∧
      w.heap[b]? =some (.cells us (ndOf Γ m).ty (0,0))∧rows.length*(ndOf Γ m).size≤us.size∧(∀row,row∈rows→row.length=(ndOf Γ m).size)∧
      (∀(i j:Nat) (row:List T) (x:T) (u:Value),rows[i]? =some row→row[j]? =some x→us[i*(ndOf Γ m).size+j]? =some u→Cell Γ m hs β w X i j x u (B i j))∧
      (∀i j c,B i j c→i<rows.length∧j<(ndOf Γ m).size∧c≠b)∧(∀i j i' j' c,B i j c→B i' j' c→i=i'∧j=j')∧ ∀c,β.n id c↔ ∃i j,B i j c)
theorem RE.mono{β β':Map}{w w':World}{X X':Nat→Prop}{id:Nat}{en:E}(h:RE β w X id en)(e:Ext X w w')(hX: ∀b,b<w.heap.size→X' b→X b)
    (hβ:MLe β β') (hid: ∀x,β id=some x→β' id=some x) (hsh:Shaped β w w') (hsame: ∀b,At β id b→w'.heap[b]? =w.heap[b]?) (hn: ∀b,β'.n id b↔β.n id b:=by exact fun _=>Iff.rfl):RE β' w' X' id en:=by
  cases en with
  |cells cs=>
    obtain⟨b,us,ty,h1,h2,h3,h4⟩:=h;exact⟨b,us,ty,hid _ h1,by rw [hsame b (.inl ⟨_,h1⟩)];exact h2,h3,fun i c u hc hu=>(h4 i c u hc hu).mono e hX hβ hsh⟩
  |arr ty gen size rows=>
    refine⟨h.1,?_⟩;rcases h.2 with ⟨h1,h2⟩|⟨b,us,h1,h2,h3,h4,h5⟩
    · exact .inl ⟨hid _ h1,h2⟩
    · exact .inr ⟨b,us,hid _ h1,by rw [hsame b (.inl ⟨_,h1⟩)];exact h2,h3,h4,fun i j row x u a1 a2 a3=>(h5 i j row x u a1 a2 a3).mono e hX⟩
  |tree Γ m gen rows hs=>
    refine⟨h.1,?_⟩;rcases h.2 with ⟨h1,h2,h0⟩|⟨b,us,B,h1,h2,h3,h4,h5,h6,h7,h8⟩
    · exact .inl ⟨hid _ h1,h2,fun c hc=>h0 c ((hn c).1 hc)⟩
    · refine .inr ⟨b,us,B,hid _ h1,by rw [hsame b (.inl ⟨_,h1⟩)];exact h2,h3,h4,fun i j row x u a1 a2 a3=>(h5 i j row x u a1 a2 a3).mono e hX hβ hsh fun c hc=>hsame c (.inr ((h8 c).2 ⟨i,j,hc⟩)),h6,h7,fun c=>(hn c).trans (h8 c)⟩
def Map.put(β:Map)(d:Nat)(x:Option (Option Nat×Nat)):Map:=⟨fun i=>bif Nat.beq i d then x else β i,β.n⟩
theorem cW(β:Map)(d:Nat)(x:Option (Option Nat×Nat)):β.put d x d=x:=by simp [Map.put]
theorem aV(β:Map)(d i:Nat)(x:Option (Option Nat×Nat))(h:i≠d):β.put d x i=β i:=by
  have:Nat.beq i d=false:=by cases hh:Nat.beq i d with
    |false=>rfl
    |true=>exact absurd (fV hh) h
  simp [Map.put,this]
def upd{α:Type}(f:Nat→α)(d:Nat)(v:α):Nat→α:=fun i=>bif Nat.beq i d then v else f i
theorem aI{α:Type}(f:Nat→α)(d:Nat)(v:α):upd f d v d=v:=by simp [upd]
theorem aH{α:Type}(f:Nat→α)(d i:Nat)(v:α)(h:i≠d):upd f d v i=f i:=by
  have:Nat.beq i d=false:=by cases hh:Nat.beq i d with
    |false=>rfl
    |true=>exact absurd (fV hh) h
  simp [upd,this]
structure S where
  t:Nat→V
  H:Nat→Option E
  u:Nat→Bool
structure Glob where
  ng:Nat
  W:World
def Glob.ok(G:Glob)(w:World):Prop:=G.ng≤w.heap.size∧ ∀b,b<G.ng→w.heap[b]? =G.W.heap[b]?
structure Ctx where
  P:Program
  G:Glob
  w0:World
  X:Nat→Prop
  n0:Nat
  β0:Map
  nt:Nat
def Ctx.M(K:Ctx)(b:Nat):Prop:= ∃id,id<K.n0∧At K.β0 id b
def own(K:Ctx)(β:Map)(H:Nat→Option E)(b:Nat):Prop:=K.X b∨ ∃id,H id≠none∧At β id b
def BaseR(n:Nat)(β0 β:Map)(sz:Nat):Prop:= ∀id,id<n→(β id=β0 id)∨ ∃q g q' g',β0 id=some (q,g)∧1≤g∧β id=some (q',g')∧g<g'∧ ∀b,q'=some b→q=some b∨sz≤b
theorem BaseR.refl(n:Nat)(β:Map)(sz:Nat):BaseR n β β sz:=fun _ _=> .inl rfl
theorem BaseR.keep{n:Nat}{β0 β β':Map}{sz:Nat}(h:BaseR n β0 β sz)(hk: ∀id,id<n→β' id=β id):BaseR n β0 β' sz:=fun id hid=>by rw [hk id hid];exact h id hid
theorem BaseR.more{n:Nat}{β0 β β':Map}{sz:Nat}(h:BaseR n β0 β sz)(hs: ∀id,id<n→(β' id=β id)∨ ∃q g q' g',β id=some (q,g)∧1≤g∧β' id=some (q',g')∧g<g'∧ ∀b,q'=some b→q=some b∨sz≤b):BaseR n β0 β' sz:=by
  intro id hid;rcases hs id hid with e|⟨q,g,q',g',a1,a2,a3,a4,a5⟩
  · rw [e];exact h id hid
  · rcases h id hid with e|⟨q1,g1,q2,g2,b1,b2,b3,b4,b5⟩
    · exact .inr ⟨q,g,q',g',by rw [←e];exact a1,a2,a3,a4,a5⟩
    · rw [a1] at b3;cases b3;exact .inr ⟨q1,g1,q',g',b1,b2,a3,by omega,fun b hb=>by
        rcases a5 b hb with c|c
        · exact b5 b c
        · exact .inr c⟩
theorem BaseR.grow{n:Nat}{β0 β β':Map}{sz:Nat}(h:BaseR n β0 β sz)(k gen:Nat)(q q':Option Nat)(hq:β k=some (q,gen))(hg:1≤gen)(hk:β' k=some (q',gen+1))(hq': ∀b,q'=some b→q=some b∨sz≤b)
    (hn: ∀id,id≠k→β' id=β id):BaseR n β0 β' sz:=by
  intro id hid;by_cases hi:id=k
  · subst hi;rcases h id hid with h1|⟨q1,g1,q2,g2,h1,h2,h3,h4,h5⟩
    · exact .inr ⟨q,gen,q',gen+1,by rw [←h1];exact hq,hg,hk,vAV _,hq'⟩
    · rw [hq] at h3;cases h3;exact .inr ⟨q1,g1,q',gen+1,h1,h2,hk,by omega,fun b hb=>by
        rcases hq' b hb with h6|h6
        · exact h5 b h6
        · exact .inr h6⟩
  · rw [hn id hi];exact h id hid
theorem Shaped.ext{β:Map}{w0 w w':World}(h:Shaped β w0 w)(hsz:w0.heap.size≤w.heap.size)(e:Ext (fun _=>False) w w'):Shaped β w0 w':=
  fun b hb=>(eV (e.keep b (vAN hb hsz) fun h=>h)).trans (h b hb)
structure Rel (K:Ctx) (β:Map) (s:S) (a:Act) (w:World):Prop where
  ext:Ext K.M K.w0 w
  gok:K.G.ok K.w0
  mg: ∀b,K.M b→K.G.ng≤b
  xold: ∀b,K.X b→b<K.w0.heap.size∧ ¬K.M b
  base:BaseR K.n0 K.β0 β K.w0.heap.size
  shp:Shaped K.β0 K.w0 w
  low: ∀id,id<K.n0→s.u id=true
  dom: ∀id,s.u id=false→β id=none
  domn: ∀id b,s.u id=false→ ¬β.n id b
  inj0: ∀id id' b,At K.β0 id b→At K.β0 id' b→id=id'
  inj: ∀id id' b,At β id b→At β id' b→id=id'
  fresh: ∀id b,At β id b→(K.M b∨K.w0.heap.size≤b)∧b<w.heap.size
  heap: ∀id e,s.H id=some e→s.u id=true∧RE β w (own K β s.H) id e
  slots: ∀i,RV β w (own K β s.H) (s.t i) (a.tmps.getD i undef)
  nt:a.tmps.size=K.nt
  defers:a.defers=[]
theorem aDg{G:Glob}{X:Nat→Prop}{w w':World}(h:G.ok w)(e:Ext X w w')(hX: ∀b,X b→G.ng≤b):G.ok w':=
  ⟨r8 h.1 e.size,fun b hb=>(e.keep b (vAN hb h.1) fun hx=>by have:=hX b hx;omega).trans (h.2 b hb)⟩
theorem Rel.glob{K:Ctx}{β:Map}{s:S}{a:Act}{w:World}(h:Rel K β s a w):K.G.ok w:=aDg h.gok h.ext h.mg
mutual
def V.ok(u:Nat→Bool):V→Bool
  | .ref id _=>u id
  | .msl id _ _ _ _=>u id
  | .eref id _ _ _ _=>u id
  | .agg cs=>f8 u cs
  | .tup cs=>f8 u cs
  | .fn _ cs=>f8 u cs
  | .t _=>true
  | .tp _=>true
  | .junk=>true
def f8(u:Nat→Bool):List V→Bool
  | []=>true
  |c::cs=>V.ok u c&&f8 u cs
end
theorem m9{u:Nat→Bool}: ∀{cs:List V} {i:Nat} {c:V},f8 u cs=true→cs[i]? =some c→V.ok u c=true
  | [],_,_,_,h=>by simp at h
  |c::cs,0,_,h,h'=>by simp at h';subst h';simp [f8] at h;exact h.1
  |c::cs,i+1,_,h,h'=>by simp at h';simp [f8] at h;exact m9 h.2 h'
theorem RV.under{β β':Map}{w:World}{X X':Nat→Prop}{u:Nat→Bool}{x:V}{v:Value}(h:RV β w X x v)(hX: ∀b,X' b→X b)
    (hβ: ∀id,u id=true→β' id=β id) (hl:x.ok u=true):RV β' w X' x v:=by
  induction h with
  |t x v h=>exact .t x v (h.mono (Ext.refl _ _) fun b _=>hX b)
  |agg cs us hl' _ ih=>exact .agg cs us hl' (fun i c u hc hu=>ih i c u hc hu (m9 (by simpa [V.ok] using hl) hc))
  |tup cs us hl' _ ih=>exact .tup cs us hl' (fun i c u hc hu=>ih i c u hc hu (m9 (by simpa [V.ok] using hl) hc))
  |ref id off b hb=>exact .ref id off b (by rw [hβ id (by simpa [V.ok] using hl)];exact hb)
  |tp cells b off f hb hX' hc hr=>exact .tp cells b off f hb (fun h=>hX' (hX _ h)) hc (fun j x h=>(hr j x h).mono (Ext.refl _ _) fun b _=>hX b)
  |msl id gen size off len cap b m ty hg hb hw hs hn hl' hm=>exact .msl id gen size off len cap b m ty hg (by rw [hβ id (by simpa [V.ok] using hl)];exact hb) hw hs hn hl' hm
  |msl0 id gen size hg hb=>exact .msl0 id gen size hg (by rw [hβ id (by simpa [V.ok] using hl)];exact hb)
  |mslOld id gen size off len v q g ho hb hg=>exact .mslOld id gen size off len v q g ho (by rw [hβ id (by simpa [V.ok] using hl)];exact hb) hg
  |eref id gen size i off b hg hb=>exact .eref id gen size i off b hg (by rw [hβ id (by simpa [V.ok] using hl)];exact hb)
  |erefOld id gen size i off v q g ho hb hg=>exact .erefOld id gen size i off v q g ho (by rw [hβ id (by simpa [V.ok] using hl)];exact hb) hg
  |fn f cs us hl' _ ih=>exact .fn f cs us hl' (fun i c u hc hu=>ih i c u hc hu (m9 (by simpa [V.ok] using hl) hc))
  |junk v=>exact .junk v
def aF1(u:Nat→Bool):List (Nat×Nat×V)→Bool
  | []=>true
  |h::hs=>h.2.2.ok u&&aF1 u hs
theorem K8{u:Nat→Bool}: ∀{hs:List (Nat×Nat×V)} {i j:Nat} {v:V},aF1 u hs=true→(i,j,v)∈hs→v.ok u=true
  | [],_,_,_,_,h=>by cases h
  |h::hs,i,j,v,ho,hm=>by
    simp only [aF1,Bool.and_eq_true] at ho;rcases qE.1 hm with rfl|hm
    · exact ho.1
    · exact K8 ho.2 hm
def E.ok(u:Nat→Bool):E→Bool
  | .cells cs=>f8 u cs
  | .arr _ _ _ _=>true
  | .tree _ _ _ _ hs=>aF1 u hs
def S.le(K:Ctx)(s s':S):Prop:= ∀β a w,Rel K β s a w→ ∃β',Rel K β' s' a w
theorem S.le.refl(K:Ctx)(s:S):s.le K s:=fun β _ _ h=>⟨β,h⟩
theorem S.le.trans{K:Ctx}{a b c:S}(h:a.le K b)(k:b.le K c):a.le K c:=fun β x w hr=>let ⟨β',h'⟩:=h β x w hr;k β' x w h'
def VLe(v v':V):Prop:= ∀β w X u,RV β w X v u→RV β w X v' u
theorem VLe.refl(v:V):VLe v v:=fun _ _ _ _ h=>h
theorem VLe.of_eq{v v':V}(h:v=v'):VLe v v':=h▸VLe.refl v
theorem VLe.nil:VLe (.t .nilS) (.t (.sl [])):=by intro β w X u h;cases h with|t _ _ h=>cases h;exact .t _ _ (.sl0 _ _)
theorem VLe.junk(v:V):VLe v .junk:=fun _ _ _ _ _=> .junk _
theorem VLe.trans{a b c:V}(h:VLe a b)(k:VLe b c):VLe a c:=fun β w X u hu=>k β w X u (h β w X u hu)
def VsLe:List V→List V→Prop
  | [],[]=>True
  |v::vs,v'::vs'=>VLe v v'∧VsLe vs vs'
  |_,_=>False
theorem VsLe.refl: ∀vs:List V,VsLe vs vs
  | []=>trivial
  |v::vs=>⟨VLe.refl v,VsLe.refl vs⟩
theorem VsLe.get: ∀{vs vs':List V},VsLe vs vs'→vs.length=vs'.length∧ ∀(i:Nat) v',vs'[i]? =some v'→ ∃v,vs[i]? =some v∧VLe v v'
  | [],[],_=>⟨rfl,fun i v' h=>by simp at h⟩
  |v::vs,v'::vs',h=>by
    obtain⟨h1,h2⟩:=VsLe.get h.2;refine⟨by simp [h1],fun i x hx=>?_⟩;cases i with
    |zero=>simp at hx;subst hx;exact⟨v,rfl,h.1⟩
    |succ i=>simp at hx;exact h2 i x hx
  | [],_::_,h=>h.elim
  |_::_,[],h=>h.elim
theorem VLe.agg{vs vs':List V}(h:VsLe vs vs'):VLe (.agg vs) (.agg vs'):=by
  intro β w X u hu;obtain⟨h1,h2⟩:=h.get;cases hu with
  |agg _ us hl hr=>exact .agg _ us (by omega) fun i c u hc hx=>by obtain⟨v,e1,e2⟩:=h2 i c hc;exact e2 _ _ _ _ (hr i v u e1 hx)
theorem VLe.tup{vs vs':List V}(h:VsLe vs vs'):VLe (.tup vs) (.tup vs'):=by
  intro β w X u hu;obtain⟨h1,h2⟩:=h.get;cases hu with
  |tup _ us hl hr=>exact .tup _ us (by omega) fun i c u hc hx=>by obtain⟨v,e1,e2⟩:=h2 i c hc;exact e2 _ _ _ _ (hr i v u e1 hx)
def ELe(e e':E):Prop:=match e,e' with
  | .cells cs,.cells cs'=>VsLe cs cs'
  |e,e'=>e=e'
theorem ELe.refl(e:E):ELe e e:=by cases e with
  |cells cs=>exact VsLe.refl cs
  |arr=>rfl
  |tree=>rfl
theorem ELe.re{e e':E}(h:ELe e e'){β:Map}{w:World}{X:Nat→Prop}{id:Nat}(hr:RE β w X id e):RE β w X id e':=by
  cases e with
  |cells cs=>
    cases e' with
    |cells cs'=>
      obtain⟨h1,h2⟩:=VsLe.get h;obtain⟨b,us,ty,e1,e2,e3,e4⟩:=hr;exact⟨b,us,ty,e1,e2,by omega,fun i c u hc hu=>by obtain⟨v,f1,f2⟩:=h2 i c hc;exact f2 _ _ _ _ (e4 i v u f1 hu)⟩
    |arr=>cases h
    |tree=>cases h
  |arr ty gen size rows=>
    cases e' with
    |cells=>cases h
    |arr=>cases h;exact hr
    |tree=>cases h
  |tree Γ m gen rows hs=>
    cases e' with
    |cells=>cases h
    |arr=>cases h
    |tree=>cases h;exact hr
def SlotsLe(t:Nat→V)(u:Nat→Bool)(t':Nat→V):Prop:= ∀i,t' i= .junk∨(VLe (t i) (t' i)∧(t' i).ok u=true)
def HeapLe(H:Nat→Option E)(u:Nat→Bool)(H':Nat→Option E):Prop:= ∀id e,H' id=some e→(∃e0,H id=some e0∧ELe e0 e)∧u id=true∧e.ok u=true
def UsedLe(u u':Nat→Bool):Prop:= ∀id,u' id=true→u id=true
def iW:Nat→(Nat→Bool)→Bool
  |0,_=>true
  |n+1,u=>u n&&iW n u
theorem tR{u:Nat→Bool}: ∀{n:Nat},iW n u=true→ ∀id,id<n→u id=true
  |0,_,_,h=>absurd h (vBC _)
  |n+1,h,id,hid=>by
    simp [iW] at h;by_cases e:id=n
    · subst e;exact h.1
    · exact tR h.2 id (by omega)
def mO:Nat→V:=fun _=> .junk
def l7:Nat→Option E:=fun _=>none
def gI:Nat→Bool:=fun _=>false
theorem SlotsLe.nil(t:Nat→V)(u:Nat→Bool):SlotsLe t u mO:=fun _=> .inl rfl
theorem SlotsLe.upd{t:Nat→V}{u:Nat→Bool}{r:Nat→V}{d:Nat}{v:V}(h:VLe (t d) v)(hl:v.ok u=true)(hr:SlotsLe t u r):SlotsLe t u (Lift.upd r d v):=by
  intro i;by_cases hi:i=d
  · subst hi;rw [aI];exact .inr ⟨h,hl⟩
  · rw [aH _ _ _ _ hi];exact hr i
theorem HeapLe.nil(H:Nat→Option E)(u:Nat→Bool):HeapLe H u l7:=fun _ _ h=>by simp [l7] at h
theorem HeapLe.upd{H:Nat→Option E}{u:Nat→Bool}{r:Nat→Option E}{d:Nat}{e:E}(e0:E)(h:H d=some e0)(he:ELe e0 e)(hd:u d=true)(hl:e.ok u=true)(hr:HeapLe H u r):HeapLe H u (Lift.upd r d (some e)):=by
  intro i e' hi';by_cases hi:i=d
  · subst hi;rw [aI] at hi';cases hi';exact⟨⟨e0,h,he⟩,hd,hl⟩
  · rw [aH _ _ _ _ hi] at hi';exact hr i e' hi'
theorem UsedLe.nil(u:Nat→Bool):UsedLe u gI:=fun _ h=>by simp [gI] at h
theorem UsedLe.upd{u r:Nat→Bool}{d:Nat}(h:u d=true)(hr:UsedLe u r):UsedLe u (Lift.upd r d true):=by
  intro i hi';by_cases hi:i=d
  · subst hi;exact h
  · rw [aH _ _ _ _ hi] at hi';exact hr i hi'
theorem RE.under{β β':Map}{w:World}{X X':Nat→Prop}{u:Nat→Bool}{id:Nat}{e:E}(h:RE β w X id e)(hX: ∀b,X' b→X b)
    (hβ: ∀id,u id=true→β' id=β id) (hid:u id=true) (hl:e.ok u=true) (hn: ∀b,β'.n id b↔β.n id b:=by exact fun _=>Iff.rfl):RE β' w X' id e:=by
  cases e with
  |cells cs=>
    obtain⟨b,us,ty,h1,h2,h3,h4⟩:=h;exact⟨b,us,ty,by rw [hβ id hid];exact h1,h2,h3,fun i c u hc hu=>(h4 i c u hc hu).under hX hβ (m9 hl hc)⟩
  |arr ty gen size rows=>
    refine⟨h.1,?_⟩;rcases h.2 with ⟨h1,h2⟩|⟨b,us,h1,h2,h3,h4,h5⟩
    · exact .inl ⟨by rw [hβ id hid];exact h1,h2⟩
    · exact .inr ⟨b,us,by rw [hβ id hid];exact h1,h2,h3,h4,fun i j row x u a1 a2 a3=>(h5 i j row x u a1 a2 a3).mono (Ext.refl _ _) fun b _=>hX b⟩
  |tree Γ m gen rows hs=>
    refine⟨h.1,?_⟩;rcases h.2 with ⟨h1,h2,h0⟩|⟨b,us,B,h1,h2,h3,h4,h5,h6,h7,h8⟩
    · exact .inl ⟨by rw [hβ id hid];exact h1,h2,fun c hc=>h0 c ((hn c).1 hc)⟩
    · refine .inr ⟨b,us,B,by rw [hβ id hid];exact h1,h2,h3,h4,fun i j row x u a1 a2 a3=>⟨fun v hv=>⟨((h5 i j row x u a1 a2 a3).1 v hv).1.under hX hβ (K8 hl hv),((h5 i j row x u a1 a2 a3).1 v hv).2⟩,
        fun hx=>((h5 i j row x u a1 a2 a3).2 hx).mono (Ext.refl _ _) (fun b _=>hX b) fun _ _=>rfl⟩,h6,h7,fun c=>(hn c).trans (h8 c)⟩
def cut(β:Map)(u:Nat→Bool):Map:=⟨fun id=>bif u id then β id else none,fun id b=>u id=true∧β.n id b⟩
theorem aBi{β:Map}{u:Nat→Bool}{id b:Nat}(h:At (cut β u) id b):At β id b:=by
  rcases h with ⟨g,h⟩|h
  · refine .inl ⟨g,?_⟩;by_cases hi:u id=true
    · simpa [cut,hi] using h
    · simp [cut,hi] at h
  · exact .inr h.2
theorem O2{β:Map}{u:Nat→Bool}{id:Nat}(h:u id=true):cut β u id=β id:=by simp [cut,h]
theorem tU{K:Ctx}{β:Map}{s s':S}(hH:HeapLe s.H s'.u s'.H): ∀b,own K (cut β s'.u) s'.H b→own K β s.H b:=by
  rintro b (h|⟨id,h1,h2⟩)
  · exact .inl h
  · cases he:s'.H id with
    |none=>exact absurd he h1
    |some e=>
      obtain⟨e0,h3,_⟩:=(hH id e he).1;exact .inr ⟨id,by rw [h3];simp,aBi h2⟩
theorem Rel.cut{K:Ctx}{β:Map}{s s':S}{a:Act}{w:World}(hr:Rel K β s a w)(ht:SlotsLe s.t s'.u s'.t)(hH:HeapLe s.H s'.u s'.H)(h0:iW K.n0 s'.u=true):Rel K (cut β s'.u) s' a w:=by
  have hown:=tU (K:=K) (β:=β) hH;refine {hr with base:= ?_,low:=tR h0,dom:= ?_,domn:= ?_,inj:= ?_,fresh:= ?_,heap:= ?_,slots:= ?_}
  · exact hr.base.keep fun id hid=>O2 (tR h0 id hid)
  · intro id hid;simp [Lift.cut,hid]
  · intro id b hid h;rw [h.1] at hid;cases hid
  · intro id id' b h1 h2;exact hr.inj id id' b (aBi h1) (aBi h2)
  · intro id b h;exact hr.fresh id b (aBi h)
  · intro id e he;obtain⟨⟨e0,h1,h0⟩,h2,h3⟩:=hH id e he;exact⟨h2,(h0.re (hr.heap id e0 h1).2).under hown (fun _ h=>O2 h) h2 h3 fun _=>⟨fun h=>h.2,fun h=>⟨h2,h⟩⟩⟩
  · intro i;rcases ht i with h|⟨h1,h2⟩
    · rw [h];exact .junk _
    · exact(h1 _ _ _ _ (hr.slots i)).under hown (fun _ h=>O2 h) h2
theorem aKv{K:Ctx}{s s':S}(ht:SlotsLe s.t s'.u s'.t)(hH:HeapLe s.H s'.u s'.H)(_hu:UsedLe s.u s'.u)(h0:iW K.n0 s'.u=true):s.le K s':=
  fun β _ _ hr=>⟨Lift.cut β s'.u,hr.cut ht hH h0⟩
def xH:Value→V
  | .bool b=> .t (.bool b)
  | .int k n=> .t (.int k n)
  | .string s=> .t (.str s.data.toList)
  | .slice none 0 0=> .t .nilS
  | .pointer none=> .t .nilP
  | .nilIface=> .t .nilI
  | .nilFunc=> .t .nilF
  |_=> .junk
def cP:Value→V
  | .agg cs=> .agg (cs.toList.map xH)
  |v=>xH v
def S.get(s:S):Operand→V
  | .tmp t=>s.t t
  | .const v=>cP v
  | .func f=> .fn f []
  | .global _=> .junk
theorem C1(β:Map)(w:World)(X:Nat→Prop)(v:Value):RV β w X (xH v) v:=by
  unfold xH;split
  · exact .t _ _ (.bool _)
  · exact .t _ _ (.int _ _)
  · rename_i s;have h:=RT.str (w:=w) (X:=X) s.data.toList;exact .t _ _ (by simpa using h)
  · exact .t _ _ .nilS
  · exact .t _ _ .nilP
  · exact .t _ _ .nilI
  · exact .t _ _ .nilF
  · exact .junk _
theorem nH(β:Map)(w:World)(X:Nat→Prop)(v:Value):RV β w X (cP v) v:=by
  unfold cP;split
  · rename_i cs;exact .agg _ _ (by simp) (fun i c u hc hu=>by
      simp only [List.getElem?_map,Array.getElem?_toList,Option.map_eq_some_iff] at hc;obtain⟨u',h1,h2⟩:=hc;rw [hu] at h1;cases h1;rw [←h2];exact C1 _ _ _ _)
  · exact C1 _ _ _ _
def RVs(β:Map)(w:World)(X:Nat→Prop):List V→List Value→Prop
  | [],[]=>True
  |v::vs,u::us=>RV β w X v u∧RVs β w X vs us
  |_,_=>False
theorem RVs.mono{β β':Map}{w w':World}{X X':Nat→Prop}: ∀{vs:List V} {us:List Value},RVs β w X vs us→Ext X w w'→(∀b,b<w.heap.size→X' b→X b)→
    MLe β β'→Shaped β w w'→RVs β' w' X' vs us
  | [],[],_,_,_,_,_=>trivial
  |_::_,_::_,h,e,hX,hβ,hs=>⟨h.1.mono e hX hβ hs,RVs.mono h.2 e hX hβ hs⟩
  | [],_::_,h,_,_,_,_=>h.elim
  |_::_,[],h,_,_,_,_=>h.elim
theorem RVs.le: ∀{β:Map} {w:World} {X:Nat→Prop} {vs vs':List V} {us:List Value},RVs β w X vs us→VsLe vs vs'→RVs β w X vs' us
  |_,_,_,[],[],[],_,_=>trivial
  |_,_,_,_::_,_::_,_::_,h,k=>⟨k.1 _ _ _ _ h.1,RVs.le h.2 k.2⟩
  |_,_,_,[],_::_,_,_,k=>k.elim
  |_,_,_,_::_,[],_,_,k=>k.elim
  |_,_,_,[],[],_::_,h,_=>h.elim
  |_,_,_,_::_,_::_,[],h,_=>h.elim
theorem Rel.get{K:Ctx}{β:Map}{s:S}{a:Act}{w:World}(h:Rel K β s a w)(x:Operand):RV β w (own K β s.H) (s.get x) (a.eval x):=by
  cases x with
  |tmp t=>exact h.slots t
  |const v=>exact nH _ _ _ v
  |func f=>exact .fn f [] #[] rfl (fun i c u hc _=>by simp at hc)
  |global g=>exact .junk _
theorem Rel.gets{K:Ctx}{β:Map}{s:S}{a:Act}{w:World}(h:Rel K β s a w): ∀xs:List Operand,RVs β w (own K β s.H) (xs.map s.get) (xs.map a.eval)
  | []=>trivial
  |x::xs=>⟨h.get x,h.gets xs⟩
def Yield(P:Program)(H:Nat→Option E)(o:Oper)(vals:List V)(v:V):Prop:=
  ∀(β:Map) (w:World) (X:Nat→Prop) (ρ:Operand→Value),(∀id e,H id=some e→RE β w X id e)→
    RVs β w X vals (o.op.operands.toList.map ρ)→ ∃u,(execOp ρ o).run P w= .ok (.value u) w∧RV β w X v u
def OpJ(K:Ctx)(o:Oper)(s s':S):Prop:=
  ∀β a w next Q,Rel K β s a w→(∀β' a' w',Rel K β' s' a' w'→next a' w')→o.wp K.P a w next Q
def S.put(s:S)(d:Option Tmp)(v:V):S:=match d with
  |some d=>{s with t:=upd s.t d v}
  |none=>s
theorem Rel.put{K:Ctx}{β:Map}{s:S}{a:Act}{w:World}(h:Rel K β s a w)(d:Option Tmp)(hd: ∀i,d=some i→Nat.blt i K.nt=true){v:V}{u:Value}(hv:RV β w (own K β s.H) v u):
    Rel K β (s.put d v) (a.put d u) w:=by
  cases d with
  |none=>exact h
  |some d=>
    have hlt:d<a.tmps.size:=by rw [h.nt];have:=hd d rfl;simpa [Nat.blt_eq] using this
    refine {h with slots:= ?_,nt:= ?_}
    · intro i;simp only [Act.put,S.put];by_cases hi:i=d
      · subst hi;rw [aI];simp only [Array.getD_eq_getD_getElem?,Array.getElem?_setIfInBounds_self_of_lt hlt,Option.getD_some];exact hv
      · rw [aH _ _ _ _ hi];simp only [Array.getD_eq_getD_getElem?,Array.getElem?_setIfInBounds_ne (Ne.symm hi)]
        have:=h.slots i;simpa only [Array.getD_eq_getD_getElem?] using this
    · simpa [Act.put] using h.nt
theorem aBC{K:Ctx}{o:Oper}{s:S}{vals:List V}{v:V}(hd: ∀i,o.dst=some i→Nat.blt i K.nt=true)(hv:VsLe (o.op.operands.toList.map s.get) vals)(h:Yield K.P s.H o vals v):
    OpJ K o s (s.put o.dst v):=by
  intro β a w next Q hr hk
  obtain⟨u,hrun,hu⟩:=h β w (own K β s.H) a.eval (fun id e he=>(hr.heap id e he).2) ((hr.gets _).le hv);unfold Oper.wp;rw [hrun];exact hk β _ w (hr.put o.dst hd hu)
section yields
variable {P:Program} {H:Nat→Option E} {d:Option Tmp} {ty:TypeId} {pos:String} {af:Array Edge} {g:Option (Nat×Bool)}
theorem aK7(x:Operand)(v:V):Yield P H ⟨d,.move x,ty,pos,af,g⟩ [v] v:=by intro β w X ρ _ ha;exact⟨ρ x,rfl,ha.1⟩
theorem aGM(x:Operand)(v:V):Yield P H ⟨d,.assign x,ty,pos,af,g⟩ [v] v:=by intro β w X ρ _ ha;exact⟨ρ x,rfl,ha.1⟩
theorem gT{β:Map}{w:World}{X:Nat→Prop}{b:Bool}{u:Value}(h:RV β w X (.t (.bool b)) u):u= .bool b:=by cases h with|t _ _ h=>cases h with|bool=>rfl
theorem aW{β:Map}{w:World}{X:Nat→Prop}{k:IntKind}{n:Int}{u:Value}(h:RV β w X (.t (.int k n)) u):u= .int k n:=by cases h with|t _ _ h=>cases h with|int=>rfl
theorem cV{β:Map}{w:World}{X:Nat→Prop}{l:List UInt8}{u:Value}(h:RV β w X (.t (.str l)) u):u= .string ⟨l.toArray⟩:=by cases h with|t _ _ h=>cases h with|str=>rfl
theorem aBG(c x y:Operand)(v v':V):Yield P H ⟨d,.pick c x y,ty,pos,af,g⟩ [.t (.bool true),v,v'] v:=by
  intro β w X ρ _ ha;refine⟨ρ x,?_,ha.2.1⟩
  have:=gT ha.1;simp [execOp,this,asBool]
theorem aAw(c x y:Operand)(v v':V):Yield P H ⟨d,.pick c x y,ty,pos,af,g⟩ [.t (.bool false),v,v'] v':=by
  intro β w X ρ _ ha;refine⟨ρ y,?_,ha.2.2.1⟩
  have:=gT ha.1;simp [execOp,this,asBool]
theorem aMD(x y:Operand)(t t':TypeId)(k:IntKind)(m n:Int):Yield P H ⟨d,.binOp .add t x y t',ty,pos,af,g⟩ [.t (.int k m),.t (.int k n)] (.t (.int k (k.wrap (m+n)))):=by intro β w X ρ _ ha;refine⟨.int k (k.wrap (m+n)),?_,.t _ _ (.int _ _)⟩;simp [execOp,aW ha.1,aW ha.2.1,eqGuard,binOp,Op.intArith]
end yields
end Go.Lift
