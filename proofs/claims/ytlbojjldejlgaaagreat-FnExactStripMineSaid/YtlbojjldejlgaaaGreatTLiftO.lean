/- Contracts of functions that are handed blocks to write, and of functions that hand out blocks of their own. -/
import Derived.Test.YtlbojjldejlgaaaGreatTLiftN
namespace Go.Lift
open Go
mutual
def V.ren(L:List Nat):V→V
  | .ref id off=> .ref (L.getD id 0) off
  | .msl id gen size off len=> .msl (L.getD id 0) gen size off len
  | .eref id gen size i off=> .eref (L.getD id 0) gen size i off
  | .agg cs=> .agg (fU L cs)
  | .tup cs=> .tup (fU L cs)
  | .fn f cs=> .fn f (fU L cs)
  | .t x=> .t x
  | .tp x=> .tp x
  | .junk=> .junk
def fU(L:List Nat):List V→List V
  | []=>[]
  |c::cs=>c.ren L::fU L cs
end
def E.ren(L:List Nat):E→E
  | .cells cs=> .cells (fU L cs)
  | .arr ty gen size rows=> .arr ty gen size rows
  | .tree Γ m gen rows hs=> .tree Γ m gen rows (hs.map fun h=>(h.1,h.2.1,h.2.2.ren L))
def E.flat:E→Bool
  | .cells _=>true
  |_=>false
theorem eJ{L:List Nat}: ∀cs:List V,(fU L cs).length=cs.length
  | []=>rfl
  |c::cs=>by simp [fU,eJ cs]
theorem J9{L:List Nat}: ∀(cs:List V) (i:Nat),(fU L cs)[i]? =(cs[i]?).map (V.ren L)
  | [],_=>by simp [fU]
  |c::cs,0=>by simp [fU]
  |c::cs,i+1=>by simp [fU,J9 cs i]
theorem uE{L:List Nat}{cs:List V}{i:Nat}{c:V}(h:(fU L cs)[i]? =some c): ∃c0,cs[i]? =some c0∧c=c0.ren L:=by
  rw [J9] at h;cases hc:cs[i]? with
  |none=>rw [hc] at h;simp at h
  |some c0=>rw [hc] at h;simp at h;exact⟨c0,rfl,h.symm⟩
theorem RV.ren{β β':Map}{w:World}{X:Nat→Prop}{L:List Nat}{v:V}{u:Value}(h:RV β w X v u)(hβ: ∀k x,β k=some x→β' (L.getD k 0)=some x):RV β' w X (v.ren L) u:=by
  induction h with
  |t x v h=>exact .t x v h
  |agg cs us hl _ ih=>exact .agg _ us (by rw [eJ];exact hl) (fun i c u hc hu=>by obtain⟨c0,h1,rfl⟩:=uE hc;exact ih i c0 u h1 hu)
  |tup cs us hl _ ih=>exact .tup _ us (by rw [eJ];exact hl) (fun i c u hc hu=>by obtain⟨c0,h1,rfl⟩:=uE hc;exact ih i c0 u h1 hu)
  |ref id off b hb=>exact .ref _ off b (hβ _ _ hb)
  |tp cells b off f hb hX hc hr=>exact .tp cells b off f hb hX hc hr
  |msl id gen size off len cap b n ty hg hb hw hs hn hl hm=>exact .msl _ gen size off len cap b n ty hg (hβ _ _ hb) hw hs hn hl hm
  |msl0 id gen size hg hb=>exact .msl0 _ gen size hg (hβ _ _ hb)
  |mslOld id gen size off len v q g ho hb hg=>exact .mslOld _ gen size off len v q g ho (hβ _ _ hb) hg
  |eref id gen size i off b hg hb=>exact .eref _ gen size i off b hg (hβ _ _ hb)
  |erefOld id gen size i off v q g ho hb hg=>exact .erefOld _ gen size i off v q g ho (hβ _ _ hb) hg
  |fn f cs us hl _ ih=>exact .fn f _ us (by rw [eJ];exact hl) (fun i c u hc hu=>by obtain⟨c0,h1,rfl⟩:=uE hc;exact ih i c0 u h1 hu)
  |junk v=>exact .junk v
def kJ(L:List Nat)(β:Map):Map:=⟨fun k=>(L[k]?).bind β,fun k b=> ∃id,L[k]? =some id∧β.n id b⟩
def cA:Nat→(Nat→Bool)
  |0=>gI
  |n+1=>upd (cA n) n true
theorem bX: ∀{n k:Nat},cA n k=true↔k<n
  |0,k=>by simp [cA,gI]
  |n+1,k=>by
    by_cases h:k=n
    · subst h;simp [cA,aI]
    · rw [cA,aH _ _ _ _ h,bX];omega
mutual
theorem RV.unren{β:Map}{w:World}{X:Nat→Prop}{L:List Nat}: ∀(v:V) (u:Value),RV β w X (v.ren L) u→v.ok (cA L.length)=true→RV (kJ L β) w X v u
  | .t x,u,h,_=>by
    simp only [V.ren] at h;cases h with|t _ _ h=>exact .t _ _ h
  | .tp x,u,h,_=>by
    simp only [V.ren] at h;cases h with|tp _ b off f hb hX hc hr=>exact .tp _ b off f hb hX hc hr
  | .junk,u,_,_=> .junk u
  | .ref id off,u,h,hl=>by
    have hlt:id<L.length:=bX.1 (by simpa [V.ok] using hl);have hm:kJ L β id=β (L.getD id 0):=by simp [kJ,List.getElem?_eq_getElem hlt]
    simp only [V.ren] at h;cases h with|ref _ _ b hb=>exact .ref _ _ b (by rw [hm];exact hb)
  | .msl id gen size off len,u,h,hl=>by
    have hlt:id<L.length:=bX.1 (by simpa [V.ok] using hl);have hm:kJ L β id=β (L.getD id 0):=by simp [kJ,List.getElem?_eq_getElem hlt]
    simp only [V.ren] at h;cases h with
    |msl _ _ _ _ _ cap b n ty hg hb hw hs hn hl hm'=>exact .msl _ _ _ _ _ cap b n ty hg (by rw [hm];exact hb) hw hs hn hl hm'
    |msl0 _ _ _ hg hb=>exact .msl0 _ _ _ hg (by rw [hm];exact hb)
    |mslOld _ _ _ _ _ _ q g ho hb hg=>exact .mslOld _ _ _ _ _ _ q g ho (by rw [hm];exact hb) hg
  | .eref id gen size i off,u,h,hl=>by
    have hlt:id<L.length:=bX.1 (by simpa [V.ok] using hl);have hm:kJ L β id=β (L.getD id 0):=by simp [kJ,List.getElem?_eq_getElem hlt]
    simp only [V.ren] at h;cases h with
    |eref _ _ _ _ _ b hg hb=>exact .eref _ _ _ _ _ b hg (by rw [hm];exact hb)
    |erefOld _ _ _ _ _ _ q g ho hb hg=>exact .erefOld _ _ _ _ _ _ q g ho (by rw [hm];exact hb) hg
  | .agg cs,u,h,hl=>by
    simp only [V.ren] at h;cases h with
    |agg _ us hs hr=>exact .agg _ us (by rw [eJ] at hs;exact hs) (fun i c u hc hu=>uR cs (fun i=>us[i]?) (by simpa [V.ok] using hl) hr i c u hc hu)
  | .tup cs,u,h,hl=>by
    simp only [V.ren] at h;cases h with
    |tup _ us hs hr=>exact .tup _ us (by rw [eJ] at hs;exact hs) (fun i c u hc hu=>uR cs (fun i=>us[i]?) (by simpa [V.ok] using hl) hr i c u hc hu)
  | .fn f cs,u,h,hl=>by
    simp only [V.ren] at h;cases h with
    |fn _ _ us hs hr=>exact .fn _ _ us (by rw [eJ] at hs;exact hs) fun i c u hc hu=>uR cs (fun i=>us[i]?) (by simpa [V.ok] using hl) hr i c u hc hu
theorem uR{β:Map}{w:World}{X:Nat→Prop}{L:List Nat}: ∀(cs:List V) (U:Nat→Option Value),f8 (cA L.length) cs=true→
    (∀i c u,(fU L cs)[i]? =some c→U i=some u→RV β w X c u)→ ∀(i:Nat) c u,cs[i]? =some c→U i=some u→RV (kJ L β) w X c u
  | [],_,_,_,_,_,_,h,_=>by simp at h
  |c::cs,U,hl,h,0,_,u,hc,hu=>by
    simp at hc;subst hc;simp [f8] at hl;exact RV.unren c u (h 0 _ u (by simp [fU]) hu) hl.1
  |c::cs,U,hl,h,i+1,c',u,hc,hu=>by simp at hc;simp [f8] at hl;exact uR cs (fun i=>U (i+1)) hl.2 (fun i c u h1 h2=>h (i+1) c u (by simpa [fU] using h1) h2) i c' u hc hu
end
theorem RVs.unren{β:Map}{w:World}{X:Nat→Prop}{L:List Nat}: ∀{vs:List V} {us:List Value},RVs β w X (fU L vs) us→f8 (cA L.length) vs=true→RVs (kJ L β) w X vs us
  | [],[],_,_=>trivial
  |v::vs,u::us,h,hl=>by
    simp [f8] at hl;exact⟨RV.unren v u h.1 hl.1,RVs.unren h.2 hl.2⟩
  | [],_::_,h,_=>h.elim
  |_::_,[],h,_=>h.elim
def listH:List E→Nat→(Nat→Option E)
  | [],_=>l7
  |e::es,k=>upd (listH es (k+1)) k (some e)
theorem Z6: ∀(es:List E) (k i:Nat),listH es k (k+i)=es[i]?
  | [],_,_=>by simp [listH,l7]
  |e::es,k,0=>by rw [vBp,listH,aI];simp
  |e::es,k,i+1=>by rw [listH,aH _ _ _ _ (by omega),show k+(i+1)=(k+1)+i by omega,Z6 es (k+1) i];simp
theorem kY(es:List E)(i:Nat):listH es 0 i=es[i]? :=by have:=Z6 es 0 i;rwa [l4] at this
def ownOf(X:Nat→Prop)(β:Map)(H:Nat→Option E)(b:Nat):Prop:=X b∨ ∃id,H id≠none∧At β id b
structure Inn (G:Glob) (inn:List E) (β:Map) (w:World) (X:Nat→Prop):Prop where
  dom: ∀k,inn.length≤k→β k=none
  domn: ∀k b,inn.length≤k→ ¬β.n k b
  inj: ∀id id' b,At β id b→At β id' b→id=id'
  place: ∀k b,At β k b→b<w.heap.size∧ ¬X b∧G.ng≤b
  heap: ∀k e,inn[k]? =some e→RE β w (ownOf X β (listH inn 0)) k e
structure Left (β0 β:Map) (inn out:List E) (w w':World) (X:Nat→Prop) (r:V) (u:Value):Prop where
  ext:Ext (fun b=> ∃k,At β0 k b) w w'
  base:BaseR inn.length β0 β w.heap.size
  shp:Shaped β0 w w'
  dom: ∀k,out.length≤k→β k=none
  domn: ∀k b,out.length≤k→ ¬β.n k b
  inj: ∀id id' b,At β id b→At β id' b→id=id'
  fresh: ∀k b,At β k b→((∃k',k'<inn.length∧At β0 k' b)∨w.heap.size≤b)∧b<w'.heap.size
  heap: ∀k e,out[k]? =some e→RE β w' (ownOf X β (listH out 0)) k e
  res:RV β w' (ownOf X β (listH out 0)) r u
def VC(P:Program)(G:Glob)(f:FuncId)(inn:List E)(args:List V){ι:Type}(φ:ι→Prop)(r:ι→V)(out:ι→List E):Prop:=
  ∀(w:World) (X:Nat→Prop) (β0:Map) (us:List Value),G.ok w→(∀b,X b→b<w.heap.size)→Inn G inn β0 w X→RVs β0 w (ownOf X β0 (listH inn 0)) args us→
    Calls P f us.toArray w fun e w'=> ∃u i β,e= .returned u∧φ i∧Left β0 β inn (out i) w w' X (r i) u
def Ctx.vc(P:Program)(G:Glob)(w:World)(X:Nat→Prop)(n0:Nat)(β0:Map)(nt:Nat):Ctx:={P,G,w0:=w,X,n0,β0,nt}
def startV(inn:List E)(args:List V):S:={t:=tZ args 0,H:=listH inn 0,u:=cA inn.length}
theorem Rel.startV{P:Program}{G:Glob}{w:World}{X:Nat→Prop}{nt:Nat}{inn:List E}{β0:Map}{args:List V}{us:List Value}(hG:G.ok w)(hX: ∀b,X b→b<w.heap.size)(hi:Inn G inn β0 w X)
    (h:RVs β0 w (ownOf X β0 (listH inn 0)) args us) (hn:us.length≤nt):
    Rel (Ctx.vc P G w X inn.length β0 nt) β0 (Lift.startV inn args) {tmps:=us.toArray++Array.replicate (nt-us.toArray.size) undef,defers:=[]} w:=by
  have hlt: ∀id b,At β0 id b→id<inn.length:=by
    rintro id b (⟨g,h⟩|h)
    · apply vAY;intro hle;rw [hi.dom id hle] at h;cases h
    · exact vAY fun hle=>hi.domn id b hle h
  refine {ext:=Ext.refl _ _,gok:=hG,mg:= ?_,xold:= ?_,base:=BaseR.refl _ _ _,shp:=Shaped.refl _ _,low:=fun id h=>bX.2 h,dom:= ?_,domn:= ?_,
           inj0:=hi.inj,inj:=hi.inj,fresh:=fun id b h=>⟨.inl ⟨id,hlt id b h,h⟩,(hi.place id b h).1⟩,heap:= ?_,slots:= ?_,nt:= ?_,defers:=rfl}
  · rintro b ⟨id,_,h⟩;exact(hi.place id b h).2.2
  · intro b hb;exact⟨hX b hb,fun⟨id,_,h⟩=>(hi.place id b h).2.1 hb⟩
  · intro id hid;apply hi.dom;apply Nat.le_of_not_lt;intro hlt;have h1:=bX.2 hlt;have h2:cA inn.length id=false:=hid;rw [h1] at h2;cases h2
  · intro id b hid h;have h1:=bX.2 (hlt id b (.inr h));have h2:cA inn.length id=false:=hid;rw [h1] at h2;cases h2
  · intro id e he;have he':inn[id]? =some e:=by rw [←kY];exact he
    refine⟨bX.2 ?_,hi.heap id e he'⟩;apply vAY;intro hle;rw [vBD hle] at he';cases he'
  · intro i;have h1:=sG args us 0 h i;rw [l4] at h1;have h2:(us.toArray++Array.replicate (nt-us.toArray.size) undef).getD i undef=us.getD i undef:=by
      simp only [Array.getD_eq_getD_getElem?,List.getD_eq_getElem?_getD,Array.getElem?_append];by_cases hi:i<us.length
      · rw [if_pos (by simpa using hi)];simp
      · rw [if_neg (by simpa using hi)];rw [vBn];rw [vBD (by omega)];split<;>rfl
    simp only [h2];exact h1
  · simp [Ctx.vc];omega
end Go.Lift
