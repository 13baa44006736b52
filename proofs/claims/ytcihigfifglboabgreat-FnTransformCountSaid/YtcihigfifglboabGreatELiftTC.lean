/- An array of rows that own what hangs behind their one cell: its rows picked anew. -/
import Derived.Test.YtcihigfifglboabGreatELiftIns
import Derived.Test.YtcihigfifglboabGreatELiftSort
set_option linter.unusedVariables false
namespace Go.Lift
open Go
def Map.sub(β:Map)(k:Nat)(N:Nat→Prop):Map:=⟨β.f,fun id b=>β.n id b∧(id=k→N b)⟩
theorem Z2{β:Map}{k id b:Nat}{N:Nat→Prop}(h:At (β.sub k N) id b):At β id b:=by
 rcases h with h|h
 ·exact .inl h
 exact .inr h.1
theorem Rel.sub{K:Ctx}{β:Map}{s:S}{a:Act}{w:World}(h:Rel K β s a w)(k:Nat)(N:Nat→Prop)(e':E)(hk:s.H k≠none)
  (he:RE (β.sub k N) w (own K (β.sub k N) (upd s.H k (some e'))) k e'):Rel K (β.sub k N) {s with H:=upd s.H k (some e')} a w:=by
 have hown: ∀b,own K (β.sub k N) (upd s.H k (some e')) b→own K β s.H b:=by
  rintro b (hx|⟨id,h1,h2⟩)
  ·exact .inl hx
  refine .inr ⟨id,fun e0=>?_,Z2 h2⟩;by_cases hi:id=k
  ·subst hi;exact hk e0
  rw [aE _ _ _ _ hi] at h1;exact h1 e0
 have hm:MLe β (β.sub k N):=fun _ _ _ hx=> .inl hx;refine {h with base:=fun id hid=>h.base id hid,dom:=fun id hid=>h.dom id hid,domn:=fun id b hid hb=>h.domn id b hid hb.1,inj:=fun id id' b h1 h2=>h.inj id id' b (Z2 h1) (Z2 h2),fresh:=fun id b hb=>h.fresh id b (Z2 hb),heap:= ?_,slots:=fun i=>(h.slots i).mono (Ext.refl _ _) (fun b _=>hown b) hm (Shaped.refl _ _)};intro id e hx;have hx:upd s.H k (some e') id=some e:=hx;by_cases hi:id=k
 ·subst hi;rw [aF] at hx;cases hx;cases hh:s.H id with
  |none=>exact absurd hh hk
  |some e0=>exact⟨(h.heap id e0 hh).1,he⟩
 rw [aE _ _ _ _ hi] at hx;obtain⟨h1,h2⟩:=h.heap id e hx;exact⟨h1,h2.mono (Ext.refl _ _) (fun b _=>hown b) hm (fun _ h=>h) (Shaped.refl _ _) (fun _ _=>rfl) fun b=>⟨fun h=>h.1,fun h=>⟨h,fun e=>absurd e hi⟩⟩⟩
theorem Rel.pick{K:Ctx}{β:Map}{s:S}{a:Act}{w:World}(h:Rel K β s a w)(k:Nat){Γ:List Nd}{m gen m1:Nat}{rows:List (List T)}(hk:s.H k=some (.tree Γ m gen rows []))(hz:(ndOf Γ m).size=1)(hm1:(ndOf Γ m).kid 0=some m1)
  {b:Nat} {us:Array Value} (hq:β k=some (some b,gen)) (hb:w.heap[b]? =some (.cells us (ndOf Γ m).ty (0,0)))
  {w':World} {us':Array Value} (hs:us'.size=us.size) (hb':w'.heap[b]? =some (.cells us' (ndOf Γ m).ty (0,0))) (hE:Ext (fun x=>x=b) w w') (rows':List (List T)) (hl:rows'.length≤us.size) (σ:Nat→Option Nat)
  (hσ: ∀i p,σ i=some p→i<rows'.length∧p<rows.length∧us'[i]? =us[p]? ∧rows'[i]? =rows[p]?) (hinj: ∀i i' p,σ i=some p→σ i'=some p→i=i') (hnone: ∀i,i<rows'.length→σ i=none→us'[i]? =some (.slice none 0 0)∧rows'[i]? =some [.sl []]):
  ∃β',(∀id,β' id=β id)∧Rel K β' {s with H:=upd s.H k (some (.tree Γ m gen rows' []))} a w':=by
 have hHk:s.H k≠none:=by rw [hk];simp
 obtain⟨hg1,hre⟩:=(h.heap k _ hk).2;obtain⟨B,hlen,hsz,hcell,hBr,hBi,hBn⟩: ∃B:Nat→Nat→Nat→Prop,rows.length*(ndOf Γ m).size≤us.size∧(∀row,row∈rows→row.length=(ndOf Γ m).size)∧
   (∀(i j:Nat) (row:List T) (x:T) (u:Value),rows[i]? =some row→row[j]? =some x→us[i*(ndOf Γ m).size+j]? =some u→Cell Γ m [] β w (own K β s.H) i j x u (B i j))∧
   (∀i j c,B i j c→i<rows.length∧j<(ndOf Γ m).size∧c≠b)∧(∀i j i' j' c,B i j c→B i' j' c→i=i'∧j=j')∧ ∀c,β.n k c↔ ∃i j,B i j c:=by
  rcases hre with ⟨h1,_⟩|⟨b2,us2,B,h1,h2,h3,h4,h5,h6,h7,h8⟩
  ·rw [hq] at h1;cases h1
  rw [hq] at h1;cases h1;rw [hb] at h2;cases h2;exact⟨B,h3,h4,h5,h6,h7,h8⟩
 rw [hz] at hlen hsz hcell hBr;have hownb:own K β s.H b:= .inr ⟨k,hHk,.inl ⟨_,hq⟩⟩;have hbs:b<w.heap.size:=(vAy.1 hb).1
 -- the block told anew, its rows not told
 have hA:=h.setRow k b (.inl ⟨_,hq⟩) us (ndOf Γ m).ty hb us' hs (.arr (ndOf Γ m).ty gen 1 []) hHk ⟨hg1,.inr ⟨b,us',hq,setRow_heap _ _ _ _ _ _ hb,by simp,by simp,fun i j row x u h1=>by simp at h1⟩⟩;have hB:Rel K β {s with H:=upd s.H k (some (.arr (ndOf Γ m).ty gen 1 []))} a w':=by
  refine hA.grow ⟨hE.os,hE.tape,hE.output,?_,fun x hx _=>?_⟩
  ·have:=hE.size;simpa using this
  by_cases e:x=b
  ·subst e;rw [hb',setRow_heap _ _ _ _ _ _ hb]
  rw [setRow_other _ _ _ _ e];exact hE.keep x (by simpa using hx) e
 refine⟨β.sub k fun c=> ∃i p,σ i=some p∧B p 0 c,fun _=>rfl,?_⟩;have hC:=hB.sub k (fun c=> ∃i p,σ i=some p∧B p 0 c) (.tree Γ m gen rows' []) (by show upd s.H k _ k≠none;rw [aF];simp) ?_
 ·have e:upd (upd s.H k (some (E.arr (ndOf Γ m).ty gen 1 []))) k (some (.tree Γ m gen rows' []))=upd s.H k (some (.tree Γ m gen rows' [])):=by
   funext i;by_cases hi:i=k
   ·subst hi;rw [aF,aF]
   rw [aE _ _ _ _ hi,aE _ _ _ _ hi,aE _ _ _ _ hi]
  have hC':Rel K _ {s with H:=upd (upd s.H k (some (E.arr (ndOf Γ m).ty gen 1 []))) k (some (.tree Γ m gen rows' []))} a w':=hC;rw [e] at hC';exact hC'
 have hX: ∀x,own K (β.sub k fun c=> ∃i p,σ i=some p∧B p 0 c) (upd (upd s.H k (some (E.arr (ndOf Γ m).ty gen 1 []))) k (some (.tree Γ m gen rows' []))) x→own K β s.H x:=by
  rintro x (hx|⟨id,h1,h2⟩)
  ·exact .inl hx
  refine .inr ⟨id,fun e0=>?_,Z2 h2⟩;by_cases hi:id=k
  ·subst hi;exact hHk e0
  rw [aE _ _ _ _ hi,aE _ _ _ _ hi] at h1;exact h1 e0
 have hEw:Ext (own K β s.H) w w':=hE.weaken fun x _ e=>by rw [show x=b from e];exact hownb
 refine⟨hg1,.inr ⟨b,us',fun i j c=>j=0∧ ∃p,σ i=some p∧B p 0 c,hq,hb',by rw [hz];omega,fun row hrow=>?_,fun i j row x u h1 h2 h3=>?_,fun i j c hc=>?_,fun i j i' j' c hc hc'=>?_,fun c=>?_⟩⟩
 ·obtain⟨i,hi⟩:=vAJ.1 hrow;have hil:=(cX.1 hi).1;rw [hz];cases hsi:σ i with
  |none=>rw [(hnone i hil hsi).2] at hi;cases hi;rfl
  |some p=>rw [(hσ i p hsi).2.2.2] at hi;exact hsz row (cR hi)
 ·have hil:=(cX.1 h1).1;rw [hz] at h3;have hj0:j=0:=by
   have hjl:=(cX.1 h2).1;cases hsi:σ i with
   |none=>rw [(hnone i hil hsi).2] at h1;cases h1;simpa using hjl
   |some p=>rw [(hσ i p hsi).2.2.2] at h1;have:=hsz row (cR h1);omega
  subst hj0;rw [show i*1+0=i by omega] at h3;refine Cell.of ?_;cases hsi:σ i with
  |none=>
   obtain⟨a1,a2⟩:=hnone i hil hsi;rw [a2] at h1;cases h1;rw [a1] at h3;cases h3;simp only [List.getElem?_cons_zero,Option.some.injEq] at h2;subst h2;rw [hm1];exact .nil m1 _ (fun c hc=>by obtain⟨_,p,hp,_⟩:=hc;rw [hsi] at hp;cases hp)
  |some p=>
   obtain⟨a0,a1,a2,a3⟩:=hσ i p hsi;rw [a3] at h1;rw [a2] at h3;have hc:=(hcell p 0 row x u h1 h2 (by rw [show p*1+0=p by omega];exact h3)).none;have hc':=hc.mono hEw (fun x _=>hX x) fun c hc0=>hE.keep c (h.fresh k c (.inr ((hBn c).2 ⟨p,0,hc0⟩))).2 (hBr p 0 c hc0).2.2;exact hc'.iff fun c=>⟨fun⟨_,p',hp',hb'⟩=>by rw [hsi] at hp';cases hp';exact hb',fun hb'=>⟨rfl,p,hsi,hb'⟩⟩
 ·obtain⟨rfl,p,hp,hb2⟩:=hc;rw [hz];exact⟨(hσ i p hp).1,by omega,(hBr p 0 c hb2).2.2⟩
 ·obtain⟨rfl,p,hp,hb2⟩:=hc;obtain⟨rfl,p',hp',hb2'⟩:=hc'
  have:=(hBi p 0 p' 0 c hb2 hb2').1;subst this;exact⟨hinj i i' p hp hp',rfl⟩
 constructor
 ·rintro⟨_,h2⟩;obtain⟨i,p,hp,hb2⟩:=h2 rfl;exact⟨i,0,rfl,p,hp,hb2⟩
 rintro⟨i,j,rfl,p,hp,hb2⟩;exact⟨(hBn c).2 ⟨p,0,hb2⟩,fun _=>⟨i,p,hp,hb2⟩⟩
open Go.Proofs
theorem aK7{α:Type}{l l':List α}(h:l.Perm l'): ∃σ:Nat→Nat,(∀i,i<l'.length→σ i<l.length∧l'[i]? =l[σ i]?)∧ ∀i j,i<l'.length→j<l'.length→σ i=σ j→i=j:=by
 induction h with
 |nil=>exact⟨id,fun i hi=>absurd hi (vBy _),fun i j hi=>absurd hi (vBy _)⟩
 |cons a _ ih=>
  obtain⟨σ,h1,h2⟩:=ih;refine⟨fun i=>match i with|0=>0|i+1=>σ i+1,fun i hi=>?_,fun i j hi hj e=>?_⟩
  ·match i with
   |0=>exact⟨by simp,rfl⟩
   |i+1=>
    obtain⟨a1,a2⟩:=h1 i (by simpa using hi);exact⟨by simpa using a1,by simpa using a2⟩
  match i,j with
  |0,0=>rfl
  |0,j+1=>simp at e
  |i+1,0=>simp at e
  |i+1,j+1=>simp at e;rw [h2 i j (by simpa using hi) (by simpa using hj) e]
 |swap a b l=>
  refine⟨fun i=>match i with|0=>1|1=>0|i+2=>i+2,fun i hi=>?_,fun i j hi hj e=>?_⟩
  ·match i with
   |0=>exact⟨by simp,rfl⟩
   |1=>exact⟨by simp,rfl⟩
   |i+2=>exact⟨by simpa using hi,by simp⟩
  match i,j with
  |0,0=>rfl
  |0,1=>simp at e
  |0,j+2=>simp at e
  |1,0=>simp at e
  |1,1=>rfl
  |1,j+2=>simp at e
  |i+2,0=>simp at e
  |i+2,1=>simp at e
  |i+2,j+2=>simpa using e
 |trans _ _ ih1 ih2=>
  obtain⟨σ,h1,h2⟩:=ih1;obtain⟨τ,h3,h4⟩:=ih2;refine⟨fun i=>σ (τ i),fun i hi=>?_,fun i j hi hj e=>?_⟩
  ·obtain⟨a1,a2⟩:=h3 i hi;obtain⟨a3,a4⟩:=h1 (τ i) a1;exact⟨a3,a2.trans a4⟩
  exact h4 i j hi hj (h2 _ _ (h3 i hi).1 (h3 j hj).1 e)
theorem aEH{β:Map}{w:World}{X:Nat→Prop}{id gen sz:Nat}{Γ:List Nd}{m:Nat}{rows:List (List T)}{x:Value}(he:RE β w X id (.tree Γ m gen rows []))(hz:(ndOf Γ m).size=sz)(hx:RV β w X (.msl id gen sz 0 rows.length) x):
  (x= .slice none 0 0∧rows=[]∧β id=some (none,gen))∨ ∃(b cap:Nat) (cur:Array Value) (B:Nat→Nat→Nat→Prop),x= .slice (some ⟨b,0,none⟩) rows.length cap∧β id=some (some b,gen)∧w.heap[b]? =some (.cells cur (ndOf Γ m).ty (0,0))∧cur.size=cap*sz∧rows.length≤cap∧cap≤maxLen∧
   (∀(i j:Nat) (row:List T) (y:T) (u:Value),rows[i]? =some row→row[j]? =some y→cur[i*sz+j]? =some u→RO Γ w X ((ndOf Γ m).kid j) y u (B i j))∧ ∀i j c,B i j c→c≠b:=by
 obtain⟨q,hq⟩:=wX he;rcases cA hx hq with ⟨cap,b,n,ty',rfl,rfl,hw,hsh,hnn,hl,hmm⟩|⟨rfl,_,hlr,rfl⟩
 ·rcases he.2 with ⟨g1,_⟩|⟨b',cur,B,g1,g2,g3,g4,g5,g6,_⟩
  ·rw [hq] at g1;cases g1
  rw [hq] at g1;cases g1;have hcs:cur.size=cap*sz:=by
   unfold World.shape? at hsh;rw [g2] at hsh;simp at hsh;rw [←hnn] at hsh;rw [nA] at hsh;exact hsh.2
  refine .inr ⟨b,cap,cur,B,by rw [V2],hq,g2,hcs,hl,hmm,fun i j row y u h1 h2 h3=>(g5 i j row y u h1 h2 (by rw [hz];exact h3)).none,fun i j c hc=>(g6 i j c hc).2.2⟩
 exact .inl ⟨rfl,vAB hlr,hq⟩
section sortT
open Go.Shelf Go.RowKit Go.Lib Go.Sort
variable {P:Program} {ρ:Ren}
theorem aKM(L:SlLaysF.n6 P ρ){g:FuncId}(raw:CmpRaw P g)(eg: ∀args w,(callFunc g args).run P w= .ok (.enter g args) w)(call:eB P (ρ.f 6)){G:Glob}{Γ:List Nd}{m m1 gs:Nat}(hz:(ndOf Γ m).size=1)(hm1:(ndOf Γ m).kid 0=some m1)
  (rows:List (List Int)) (hn:rows.length≤1000000000) (hl: ∀l∈rows,l.length≤1000000000):
  VCC P G (ρ.f 6) [.tree Γ m gs (rows.map (rL rI)) []] [ms 0 gs 1 (rL rI) rows,.fn g []] (.tup []) [.tree Γ m gs ((eJ rows).map (rL rI)) []]:=by
 refine⟨call,?_⟩;intro w X β0 us hG hX hin ha;have hl2:us.length=2:=ha.length;obtain⟨x0,x1,rfl⟩: ∃a b,us=[a,b]:=by
  match us,hl2 with
  | [a,b],_=>exact⟨a,b,rfl⟩
 have h0:=Rel.startV (P:=P) (nt:=2) hG hX hin ha (kH _);obtain⟨hx0,hx1,_⟩:=ha;obtain rfl:x1= .func (.func g) #[] #[]:=by
  cases hx1 with
  |fn _ _ us hs _=>
   have:us= #[]:=vBJ hs;rw [this]
 generalize hact:({tmps:=[x0,Value.func (.func g) #[] #[]].toArray++Array.replicate (2-[x0,Value.func (.func g) #[] #[]].toArray.size) undef,defers:=[]}:Act)=act at h0;generalize hK:Ctx.vc P G w X [E.tree Γ m gs (rows.map (rL rI)) []].length β0 2=K at h0;have hKX:K.X=X:=by rw [←hK];rfl
 generalize hS:Lift.startV [E.tree Γ m gs (rows.map (rL rI)) []] [ms 0 gs 1 (rL rI) rows,.fn g []]=S0 at h0;have hH0:S0.H 0=some (.tree Γ m gs (rows.map (rL rI)) []):=by rw [←hS];rfl
 have hSH:S0.H=listH [E.tree Γ m gs (rows.map (rL rI)) []] 0:=by rw [←hS];rfl
 have hown:own K β0 S0.H=ownOf X β0 (listH [E.tree Γ m gs (rows.map (rL rI)) []] 0):=by funext b;rw [hSH];show(K.X b∨_)=_;rw [hKX];rfl
 rw [←hown] at hx0;have hHf:upd S0.H 0 (some (E.tree Γ m gs ((eJ rows).map (rL rI)) []))=listH [E.tree Γ m gs ((eJ rows).map (rL rI)) []] 0:=by
  rw [hSH];funext j
  match j with
  |0=>rfl
  |j+1=>rfl
 have fin: ∀(β':Map) (w':World),Rel K β' {S0 with H:=upd S0.H 0 (some (.tree Γ m gs ((eJ rows).map (rL rI)) []))} act w'→
   ∃u,∃_i:Unit,∃β,Ending.returned (.tuple #[])= .returned u∧True∧Left β0 β [E.tree Γ m gs (rows.map (rL rI)) []] [E.tree Γ m gs ((eJ rows).map (rL rI)) []] w w' X (.tup []) u:=by
  intro β' w' hr;subst hK;obtain⟨β,hβ⟩:=vV (out:=[E.tree Γ m gs ((eJ rows).map (rL rI)) []]) hr (kH _) (.tup [] #[] rfl fun i c u hc _=>by simp at hc) rfl (by
   intro id e0 he0;refine⟨⟨e0,?_,ELe.refl _⟩,?_⟩
   ·show upd S0.H 0 _ id=_;rw [hHf];exact he0
   match id with
   |0=>cases he0;exact⟨rfl,rfl⟩
   |k+1=>cases he0)
  exact⟨_,(),β,rfl,trivial,hβ⟩
 have hHne:S0.H 0≠none:=by rw [hH0];simp
 have V0:=aEH (sz:=1) (h0.heap 0 _ hH0).2 hz hx0;rcases V0 with ⟨rfl,h1,hq⟩|⟨b,cap,cur,B,rfl,hq,hgb,hcs,hlc,hmc,hr,hBb⟩
 ·have hr0:rows=[]:=by simpa using h1
  subst hr0;refine(AnyF.slices_SortFunc_none (P:=P) (ρ:=ρ) {L with} none 0 _ w).mono ?_;rintro e1 w1 ⟨rfl,rfl⟩;refine fin β0 _ ?_
  have:=h0.sameH 0 _ hH0;rw [show eJ []=[] by simp [eJ]];exact this
 have hXb:own K β0 S0.H b:= .inr ⟨0,hHne,.inl ⟨_,hq⟩⟩;rw [o7] at hlc;have hlen:rows.length≤cur.size:=by omega
 have hrt: ∀(j:Nat) (hj:j<rows.length),RT w (fun x=>x=b) (.sl (rows[j].map jS)) (cur[j]'(by omega)):=fun j hj=>by
  have hro:=hr j 0 (rL rI rows[j]) (.sl (rows[j].map jS)) _ (by rw [tG,cP hj];rfl) rfl (by rw [show j*1+0=j by omega];exact vAv (by omega));exact hro.shed (fun x hx=>by rw [show x=b from hx];exact hXb) fun c hc e=>hBb j 0 c hc e
 obtain⟨F,hF1,hF2⟩: ∃F:Fin rows.length→El w fun x=>x=b,(∀j,(F j).enc=cur[j.1]'(by have:=j.2;omega))∧ ∀j,(F j).ls=rows[j.1]:=
  ⟨fun j=>⟨(cur[j.1]'(by have:=j.2;omega),rows[j.1]),hrt j.1 j.2,hl _ (T0 j.2)⟩,fun _=>rfl,fun _=>rfl⟩
 obtain⟨d,hd⟩: ∃d:Array (El w fun x=>x=b),d=Array.ofFn F:=⟨_,rfl⟩
 have hds:d.size=rows.length:=by rw [hd];exact Array.size_ofFn
 have hdg: ∀(j:Nat) (hj:j<d.size),d[j].enc=cur[j]'(by omega)∧d[j].ls=rows[j]'(by omega):=fun j hj=>by
  subst hd;rw [Array.getElem_ofFn];exact⟨hF1 _,hF2 _⟩
 have hdl:(d.map El.ls).toList=rows:=by
  refine List.ext_getElem (by simp [hds]) fun j h1 h2=>?_;rw [Array.getElem_toList,Array.getElem_map];exact(hdg j (by omega)).2
 have hH:Holds El.enc w b 0 d:=fun j hj=>by
  rw [nA,getElem!_pos d j hj,(hdg j hj).1];refine⟨?_,by simp [World.frozen?,hgb]⟩
  have:j<cur.size:=by omega
  simp [World.cell?,hgb,this]
 have hcmp:CmpLays1 P g #[] El.enc aC4 b 0 d.size w:=CmpReads.lays (fun m os dk hs x y=>by
  have hE:=aGv (w:=w) (X:=fun x=>x=b) (b:=b) (m:=m) (dk:=dk) (os:=os) rfl;exact(aMo raw (x.2.1.mono hE fun _ _ h=>h) (y.2.1.mono hE fun _ _ h=>h) x.2.2 y.2.2).mono (by
   rintro e1 w1 ⟨rfl,rfl⟩;exact⟨rfl,0,rfl⟩))
 have run:=Any.slices_SortFunc L El.enc El.one aC4 aMD g #[] b 0 cap d w eg hcmp hH (vAy.1 hgb).1 (by omega);rw [hds] at run;rw [o7];refine run.mono ?_;rintro e1 w1 ⟨rfl,d',n,os,hp,hs,hw1⟩;rw [←hds] at hp hs;have hls:=aCz hp hs;rw [hdl] at hls;have hds':d'.size=d.size:=hp.1;obtain⟨σ,hσ1,hσ2⟩:=aK7 (l:=d.toList) (l':=d'.toList) (by
  have h2:=hp.2.2;have e1:d'.extract 0 d.size=d':=by rw [←hds'];simp
  have e2:d.extract 0 d.size=d:=by simp
  rw [e1,e2] at h2;exact h2.symm)
 have hga:(Sort.ahead w n).heap[b]? =some (.cells cur (ndOf Γ m).ty (0,0)):=hgb;have hrow:sortWorld El.enc w b 0 n d' os=grow ((Sort.ahead w n).setRow b (putCells El.enc 0 d' cur)) os:=by
  show grow (putRow El.enc (Sort.ahead w n) b 0 d') os=_;congr 1;exact F8 hga _
 have hCs:(putCells El.enc 0 d' cur).size=cur.size:=by simp [putCells]
 have hat: ∀i,i<d'.size→(putCells El.enc 0 d' cur)[i]? =some (d'[i]!).enc:=fun i hi=>by
  unfold putCells;rw [Array.getElem?_mapIdx,vAv (by omega)];simp only [Option.map_some];rw [if_pos (by omega),Nat.sub_zero]
 have hHb:w1.heap[b]? =some (.cells (putCells El.enc 0 d' cur) (ndOf Γ m).ty (0,0)):=by
  rw [hw1,hrow];show(_++os)[b]? =_;have hbl:b<((Sort.ahead w n).setRow b (putCells El.enc 0 d' cur)).heap.size:=(vAy.1 (setRow_heap _ _ _ _ _ _ hga)).1;rw [Array.getElem?_append_left hbl];exact setRow_heap _ _ _ _ _ _ hga
 have hEb:Ext (fun x=>x=b) w w1:=by rw [hw1];exact aGv rfl
 have hdz:d'.size=rows.length:=by rw [hds',hds]
 have hll:(eJ rows).length=rows.length:=by rw [←hls,vAS,Array.size_map,hdz]
 have hget: ∀i (hi:i<rows.length),∃hp:σ i<rows.length,(putCells El.enc 0 d' cur)[i]? =cur[σ i]? ∧(eJ rows)[i]? =rows[σ i]? :=fun i hi=>by
  obtain⟨a1,a2⟩:=hσ1 i (by rw [vAS];omega);rw [vAS,hds] at a1;rw [vAX,vAX,vAv (by omega),vAv (by omega)] at a2;have a3:d'[i]'(by omega)=d[σ i]'(by omega):=by simpa using a2
  refine⟨a1,?_,?_⟩
  ·rw [hat i (by omega),getElem!_pos d' i (by omega),a3,(hdg (σ i) (by omega)).1,vAv (by omega)]
  rw [←hls,vAX,Array.getElem?_map,vAv (by omega),Option.map_some,a3,(hdg (σ i) (by omega)).2,cP a1]
 obtain⟨β',_,hR⟩:=h0.pick 0 hH0 hz hm1 hq hgb hCs hHb hEb ((eJ rows).map (rL rI)) (by rw [o7,hll];omega) (fun i=>if i<rows.length then some (σ i) else none) (fun i p h=>by
   by_cases hi:i<rows.length
   ·rw [if_pos hi] at h;cases h;obtain⟨hp,e1,e2⟩:=hget i hi;exact⟨by rw [o7,hll];exact hi,by rw [o7];exact hp,e1,by rw [tG,tG,e2]⟩
   ·rw [if_neg hi] at h;cases h) (fun i i' p h h'=>by
   by_cases hi:i<rows.length
   ·by_cases hi':i'<rows.length
    ·rw [if_pos hi] at h;rw [if_pos hi'] at h';exact hσ2 i i' (by rw [vAS];omega) (by rw [vAS];omega) (Option.some.inj (h.trans h'.symm))
    rw [if_neg hi'] at h';cases h'
   ·rw [if_neg hi] at h;cases h) (fun i hi h=>by
   rw [o7,hll] at hi;rw [if_pos hi] at h;cases h)
 exact fin β' _ hR
theorem aEL(L:SlLaysF.n6 P ρ){g:FuncId}(raw:CmpRaw P g)(eg: ∀args w,(callFunc g args).run P w= .ok (.enter g args) w)(call:eB P (ρ.f 6)){G:Glob}{Γ:List Nd}{m m1 gs:Nat}(hz:(ndOf Γ m).size=1)(hm1:(ndOf Γ m).kid 0=some m1){x r:List (List Int)}(h:m_sortL x=some r):
  VCC P G (ρ.f 6) [.tree Γ m gs (x.map (rL rI)) []] [ms 0 gs 1 (rL rI) x,.fn g []] (.tup []) [.tree Γ m gs (r.map (rL rI)) []]:=by
 unfold m_sortL at h;split at h
 ·rename_i hn;cases h;exact aKM L raw eg call hz hm1 x hn.1 hn.2
 cases h
end sortT
theorem l8(kp:Nat→Bool)(m:Nat):keptL kp (m+1)=keptL kp m++(if kp m then [m] else []):=by unfold keptL;rw [vBq,vBD];congr 1;by_cases h:kp m<;>simp [h]
theorem xH{kp:Nat→Bool}{m:Nat}(h: ∀j,j<m→kp j=true):keptL kp m=List.range m:=by unfold keptL;exact List.filter_eq_self.2 fun j hj=>h j (vBS.1 hj)
structure CpfRaw (P:Program) (f g:FuncId):Prop where
 run: ∀(vs:Nat→Value) (b off n cap:Nat) (ty:TypeId) (cur:Array Value) (kp:Nat→Bool) (w:World) (hg:w.heap[b]? =some (.cells cur ty (0,0))) (hn:off+n≤cur.size) (hv: ∀j,j<n→cur[off+j]? =some (vs j)) (hone: ∀j,(vs j).oneCell'=true) (hcap:n≤cap) (hm:cap≤maxLen) (hk0:kp 0=true) (hcmp: ∀j W,0<j→j<n→w.heap.size≤W.heap.size→(∀k,k≠b→W.heap[k]? =w.heap[k]?)→Calls P g #[vs j,vs (j-1)] W fun e W'=>e= .returned (.bool (!kp j))∧ ∃q,W'=W.drewN q),Calls P f #[.slice (some ⟨b,off,none⟩) n cap,.func (.func g) #[] #[]] w fun e w'=>e= .returned (.slice (some ⟨b,off,none⟩) (keptL kp n).length cap)∧Ext (fun x=>x=b) w w'∧ ∃us',w'.heap[b]? =some (.cells us' ty (0,0))∧us'.size=cur.size∧(∀i,i<(keptL kp n).length→us'[off+i]? =some (vs ((keptL kp n).getD i 0)))∧ ∀i,(keptL kp n).length≤i→i<n→us'[off+i]? =some (.slice none 0 0)
 none1: ∀(a:Option Addr) (c:Nat) (w:World),Calls P f #[.slice a 0 c,.func (.func g) #[] #[]] w fun e w'=>e= .returned (.slice a 0 c)∧w'=w
structure EqRaw (P:Program) (g:FuncId):Prop where
 both: ∀(b1 o1 n c b2 o2 m d:Nat) (xs ys:List Int) (w:World),xs.length=n→ys.length=m→n≤9223372036854775807→m≤9223372036854775807→(∀j,j<xs.length→w.cell? ⟨b1,o1+j,none⟩=some (.int .i64 (xs.getD j 0)))→
  (∀j,j<ys.length→w.cell? ⟨b2,o2+j,none⟩=some (.int .i64 (ys.getD j 0)))→
  Calls P g #[.slice (some ⟨b1,o1,none⟩) n c,.slice (some ⟨b2,o2,none⟩) m d] w fun e w'=>e= .returned (.bool (xs==ys))∧ ∃q,w'=w.drewN q
 lens: ∀(a1 a2:Option Addr) (n c m d:Nat) (w:World),n≠m→Calls P g #[.slice a1 n c,.slice a2 m d] w fun e w'=>e= .returned (.bool false)∧w'=w
 none1: ∀(a1 a2:Option Addr) (c m d:Nat) (w:World),m≤9223372036854775807→Calls P g #[.slice a1 0 c,.slice a2 m d] w fun e w'=>e= .returned (.bool (decide (m=0)))∧w'=w
theorem aQ7{P:Program}{g:FuncId}(h:EqRaw P g){w0 w:World}(hw: ∀a v,w0.cell? a=some v→w.cell? a=some v){X:Nat→Prop}{xs ys:List Int}{v1 v2:Value}(h1:RT w0 X (.sl (xs.map jS)) v1)(h2:RT w0 X (.sl (ys.map jS)) v2)(l1:xs.length≤1000000000)(l2:ys.length≤1000000000):
  Calls P g #[v1,v2] w fun e w'=>e= .returned (.bool (xs==ys))∧ ∃q,w'=w.drewN q:=by
 have sz: ∀{e:Ending} {w':World} {c:Bool},e= .returned (.bool c)∧w'=w→(xs==ys)=c→e= .returned (.bool (xs==ys))∧ ∃q,w'=w.drewN q:=by
  rintro e w' c ⟨rfl,rfl⟩ rfl;exact⟨rfl,0,rfl⟩
 rcases G1 h1 with ⟨rfl,a,c,rfl⟩|⟨b,o,c,p1,rfl,c1⟩
 ·rcases G1 h2 with ⟨rfl,a',c',rfl⟩|⟨b',o',c',p2,rfl,c2⟩
  ·exact(h.none1 a a' c 0 c' w (by omega)).mono fun e w' q=>sz q (by simp)
  refine(h.none1 a (some ⟨b',o',none⟩) c ys.length c' w (by omega)).mono fun e w' q=>sz q ?_;cases ys with
  |nil=>simp at p2
  |cons y ys=>simp
 rcases G1 h2 with ⟨rfl,a',c',rfl⟩|⟨b',o',c',p2,rfl,c2⟩
 ·refine(h.lens (some ⟨b,o,none⟩) a' xs.length c 0 c' w (by omega)).mono fun e w' q=>sz q ?_;cases xs with
  |nil=>simp at p1
  |cons x xs=>simp
 exact h.both b o xs.length c b' o' ys.length c' xs ys w rfl rfl (by omega) (by omega) (fun j hj=>hw _ _ (c1 j hj)) fun j hj=>hw _ _ (c2 j hj)
theorem aLk{kp:Nat→Bool}{m:Nat}{i p:Nat}(h:(keptL kp m)[i]? =some p):p<m:=by have:=cR h;unfold keptL at this;exact vBS.1 (List.mem_filter.1 this).1
theorem aJx(kp:Nat→Bool)(m:Nat):(keptL kp m).length≤m:=by unfold keptL;exact V4 (List.length_filter_le _ _) (by simp)
theorem aJy{kp:Nat→Bool}{m i i' p:Nat}(h:(keptL kp m)[i]? =some p)(h':(keptL kp m)[i']? =some p):i=i':=by
 have hn:(keptL kp m).Nodup:=by unfold keptL;exact List.nodup_range.filter _
 exact(List.getElem?_inj (cX.1 h).1 hn).1 (h.trans h'.symm)
section cpf
variable {P:Program}
theorem aFy{f g:FuncId}(raw:CpfRaw P f g)(req:EqRaw P g)(call:eB P f){G:Glob}{Γ:List Nd}{m m1 gs:Nat}(hz:(ndOf Γ m).size=1)(hm1:(ndOf Γ m).kid 0=some m1)
  (rows:List (List Int)) (hl: ∀l∈rows,l.length≤1000000000):
  VCC P G f [.tree Γ m gs (rows.map (rL rI)) []] [ms 0 gs 1 (rL rI) rows,.fn g []] (ms 0 gs 1 (rL rI) (ddL rows)) [.tree Γ m gs ((ddL rows).map (rL rI)) []]:=by
 refine⟨call,?_⟩;intro w X β0 us hG hX hin ha;have hl2:us.length=2:=ha.length;obtain⟨x0,x1,rfl⟩: ∃a b,us=[a,b]:=by
  match us,hl2 with
  | [a,b],_=>exact⟨a,b,rfl⟩
 have h0:=Rel.startV (P:=P) (nt:=2) hG hX hin ha (kH _);obtain⟨hx0,hx1,_⟩:=ha;obtain rfl:x1= .func (.func g) #[] #[]:=by
  cases hx1 with
  |fn _ _ us hs _=>
   have:us= #[]:=vBJ hs;rw [this]
 generalize hact:({tmps:=[x0,Value.func (.func g) #[] #[]].toArray++Array.replicate (2-[x0,Value.func (.func g) #[] #[]].toArray.size) undef,defers:=[]}:Act)=act at h0;generalize hK:Ctx.vc P G w X [E.tree Γ m gs (rows.map (rL rI)) []].length β0 2=K at h0;have hKX:K.X=X:=by rw [←hK];rfl
 generalize hS:Lift.startV [E.tree Γ m gs (rows.map (rL rI)) []] [ms 0 gs 1 (rL rI) rows,.fn g []]=S0 at h0;have hH0:S0.H 0=some (.tree Γ m gs (rows.map (rL rI)) []):=by rw [←hS];rfl
 have hSH:S0.H=listH [E.tree Γ m gs (rows.map (rL rI)) []] 0:=by rw [←hS];rfl
 have hown:own K β0 S0.H=ownOf X β0 (listH [E.tree Γ m gs (rows.map (rL rI)) []] 0):=by funext b;rw [hSH];show(K.X b∨_)=_;rw [hKX];rfl
 rw [←hown] at hx0;have hHf:upd S0.H 0 (some (E.tree Γ m gs ((ddL rows).map (rL rI)) []))=listH [E.tree Γ m gs ((ddL rows).map (rL rI)) []] 0:=by
  rw [hSH];funext j
  match j with
  |0=>rfl
  |j+1=>rfl
 have fin: ∀(β':Map) (w':World) (v:Value),Rel K β' {S0 with H:=upd S0.H 0 (some (.tree Γ m gs ((ddL rows).map (rL rI)) []))} act w'→RV β' w' (own K β' (upd S0.H 0 (some (.tree Γ m gs ((ddL rows).map (rL rI)) [])))) (ms 0 gs 1 (rL rI) (ddL rows)) v→
   ∃u,∃_i:Unit,∃β,Ending.returned v= .returned u∧True∧Left β0 β [E.tree Γ m gs (rows.map (rL rI)) []] [E.tree Γ m gs ((ddL rows).map (rL rI)) []] w w' X (ms 0 gs 1 (rL rI) (ddL rows)) u:=by
  intro β' w' v hr hv;subst hK;obtain⟨β,hβ⟩:=vV (out:=[E.tree Γ m gs ((ddL rows).map (rL rI)) []]) hr (kH _) hv rfl (by
   intro id e0 he0;refine⟨⟨e0,?_,ELe.refl _⟩,?_⟩
   ·show upd S0.H 0 _ id=_;rw [hHf];exact he0
   match id with
   |0=>cases he0;exact⟨rfl,rfl⟩
   |k+1=>cases he0)
  exact⟨_,(),β,rfl,trivial,hβ⟩
 have hHne:S0.H 0≠none:=by rw [hH0];simp
 have hg1:1≤gs:=(h0.heap 0 _ hH0).2.1;have V0:=aEH (sz:=1) (h0.heap 0 _ hH0).2 hz hx0;rcases V0 with ⟨rfl,h1,hq⟩|⟨b,cap,cur,B,rfl,hq,hgb,hcs,hlc,hmc,hr,hBb⟩
 ·have hr0:rows=[]:=by simpa using h1
  subst hr0;refine(raw.none1 none 0 w).mono ?_;rintro e1 w1 ⟨rfl,rfl⟩;have e0:ddL []=[]:=rfl;refine fin β0 _ _ ?_ ?_
  ·have:=h0.sameH 0 _ hH0;rw [e0];exact this
  rw [e0];exact .msl0 0 gs 1 hg1 hq
 have hXb:own K β0 S0.H b:= .inr ⟨0,hHne,.inl ⟨_,hq⟩⟩;rw [o7] at hlc;have hlen:rows.length≤cur.size:=by omega
 have hrt: ∀(j:Nat) (hj:j<rows.length),RT w (fun x=>x=b) (.sl (rows[j].map jS)) (cur[j]'(by omega)):=fun j hj=>by
  have hro:=hr j 0 (rL rI rows[j]) (.sl (rows[j].map jS)) _ (by rw [tG,cP hj];rfl) rfl (by rw [show j*1+0=j by omega];exact vAv (by omega));exact hro.shed (fun x hx=>by rw [show x=b from hx];exact hXb) fun c hc e=>hBb j 0 c hc e
 obtain⟨vs,hvs⟩: ∃vs:Nat→Value,vs=fun j=>if j<rows.length then cur.getD j undef else .slice none 0 0:=⟨_,rfl⟩
 have hv: ∀j (hj:j<rows.length),vs j=cur[j]'(by omega):=fun j hj=>by
  rw [hvs];show(if j<rows.length then _ else _)=_;rw [if_pos hj];simp [show j<cur.size by omega]
 have hone: ∀j,(vs j).oneCell'=true:=fun j=>by
  by_cases hj:j<rows.length
  ·rw [hv j hj];exact(hrt j hj).oneCell
  rw [hvs];show(if j<rows.length then _ else _:Value).oneCell'=true;rw [if_neg hj];rfl
 have run:=raw.run vs b 0 rows.length cap (ndOf Γ m).ty cur (ddK rows) w hgb (by omega) (fun j hj=>by rw [nA,hv j hj];exact vAv (by omega)) hone hlc hmc (by simp [ddK]) (fun j W hj0 hj hsz hW=>by
  have hE:Ext (fun x=>x=b) w {w with heap:=W.heap}:=⟨rfl,rfl,rfl,hsz,fun k _ hk=>hW k hk⟩
  have e:=aQ7 req (w0:={w with heap:=W.heap}) (w:=W) (fun _ _ h=>h) ((hrt j hj).mono hE fun _ _ h=>h) ((hrt (j-1) (by omega)).mono hE fun _ _ h=>h) (hl _ (T0 _)) (hl _ (T0 _));rw [hv j hj,hv (j-1) (by omega)];have hk:(rows[j]==rows[j-1]'(by omega))= !ddK rows j:=by
   have g1:rows.getD j []=rows[j]:=by rw [wW,cP hj];rfl
   have g2:rows.getD (j-1) []=rows[j-1]'(by omega):=by rw [wW,cP (by omega)];rfl
   unfold ddK;rw [g1,g2]
   have:j≠0:=by omega
   by_cases hq:rows[j]=rows[j-1]'(by omega)
   ·simp [this,hq]
   simp [this,hq]
  rw [hk] at e;exact e)
 rw [o7];refine run.mono ?_;rintro e1 w1 ⟨rfl,hE,us',hb',hs',hlo,hhi⟩;have hdl:(ddL rows).length=(keptL (ddK rows) rows.length).length:=by unfold ddL;rw [o7]
 have hkl:=aJx (ddK rows) rows.length;obtain⟨β',hβ',hR⟩:=h0.pick 0 hH0 hz hm1 hq hgb hs' hb' hE ((ddL rows).map (rL rI)) (by rw [o7,hdl];omega) (fun i=>(keptL (ddK rows) rows.length)[i]?) (fun i p h=>by
   have hi:=(cX.1 h).1;have hp:=aLk h;have h1:=hlo i hi;rw [nA,wW,h,Option.getD_some,hv p hp] at h1;refine⟨by rw [o7,hdl];exact hi,by rw [o7];exact hp,?_,?_⟩
   ·rw [h1,vAv (by omega)]
   ·unfold ddL;rw [tG,tG,tG,h,cP hp];show some (rL rI (rows.getD p []))=some (rL rI rows[p]);rw [wW,cP hp];rfl) (fun i i' p h h'=>aJy h h') (fun i hi h=>by
   rw [o7,hdl] at hi;rw [cP hi] at h;cases h)
 refine fin β' _ _ hR ?_;have hb1:b<w1.heap.size:=(vAy.1 hb').1
 have:=RV.msl (β:=β') (w:=w1) (X:=own K β' (upd S0.H 0 (some (.tree Γ m gs ((ddL rows).map (rL rI)) [])))) 0 gs 1 0 (ddL rows).length cap b us'.size (ndOf Γ m).ty hg1 (by rw [hβ'];exact hq) hb1 (by unfold World.shape?;rw [hb']) (by omega) (by rw [hdl];omega) hmc;rw [hdl,V2] at this;rw [show ms 0 gs 1 (rL rI) (ddL rows)=V.msl 0 gs 1 0 (keptL (ddK rows) rows.length).length by rw [←hdl,show(ddL rows).length=(List.map (rL rI) (ddL rows)).length by rw [o7]]];exact this
end cpf
end Go.Lift
