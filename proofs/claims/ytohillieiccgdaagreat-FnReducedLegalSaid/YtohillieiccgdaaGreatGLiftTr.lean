/- Arrays whose rows own what hangs behind some of their cells: steps. -/
import Derived.Test.YtohillieiccgdaaGreatGLiftJ
namespace Go.Lift
open Go
theorem vX{β:Map}{w:World}{X:Nat→Prop}{id:Nat}{Γ:List Nd}{m gen:Nat}{rows:List (List T)}{hs:List (Nat×Nat×V)}(h:RE β w X id (.tree Γ m gen rows hs)): ∃q,β id=some (q,gen):=by
 rcases h.2 with ⟨h1,_⟩|⟨b,us,_,h1,_⟩
 ·exact⟨_,h1⟩
 ·exact⟨_,h1⟩
def Map.drop(β:Map)(k:Nat):Map:=⟨β.f,fun id b=>id≠k∧β.n id b⟩
theorem qO{β:Map}{k id b:Nat}(h:At (β.drop k) id b):At β id b:=by
 rcases h with h|h
 ·exact .inl h
 ·exact .inr h.2
theorem Rel.drop{K:Ctx}{β:Map}{s:S}{a:Act}{w:World}(h:Rel K β s a w)(k:Nat)(e':E)(hk:s.H k≠none)
  (he:RE (β.drop k) w (own K (β.drop k) (upd s.H k (some e'))) k e'):Rel K (β.drop k) {s with H:=upd s.H k (some e')} a w:=by
 have hown: ∀b,own K (β.drop k) (upd s.H k (some e')) b→own K β s.H b:=by
  rintro b (hx|⟨id,h1,h2⟩)
  ·exact .inl hx
  ·refine .inr ⟨id,fun e0=> ?_,qO h2⟩
   by_cases hi:id=k
   ·subst hi;exact hk e0
   ·rw [aC _ _ _ _ hi] at h1;exact h1 e0
 have hm:MLe β (β.drop k):=fun _ _ _ hx=> .inl hx
 refine {h with base:=fun id hid=>h.base id hid,dom:=fun id hid=>h.dom id hid,domn:=fun id b hid hb=>h.domn id b hid hb.2,inj:=fun id id' b h1 h2=>h.inj id id' b (qO h1) (qO h2),fresh:=fun id b hb=>h.fresh id b (qO hb),heap:= ?_,slots:=fun i=>(h.slots i).mono (Ext.refl _ _) (fun b _=>hown b) hm (Shaped.refl _ _)}
 intro id e hx
 have hx:upd s.H k (some e') id=some e:=hx
 by_cases hi:id=k
 ·subst hi
  rw [aF] at hx;cases hx
  cases hh:s.H id with
  |none=>exact absurd hh hk
  |some e0=>exact⟨(h.heap id e0 hh).1,he⟩
 ·rw [aC _ _ _ _ hi] at hx
  obtain⟨h1,h2⟩:=h.heap id e hx
  exact⟨h1,h2.mono (Ext.refl _ _) (fun b _=>hown b) hm (fun _ h=>h) (Shaped.refl _ _) (fun _ _=>rfl) (fun b=>⟨fun h=>h.2,fun h=>⟨hi,h⟩⟩)⟩
theorem aED{K:Ctx}{s:S}(k:Nat){ty:TypeId}{gen size:Nat}{rows:List (List T)}(Γ:List Nd)(m:Nat)(hk:s.H k=some (.arr ty gen size rows))(h1:(ndOf Γ m).ty=ty)(h2:(ndOf Γ m).size=size)
  (h3:rows=[]∨(ndOf Γ m).kids=[]):s.le K {s with H:=upd s.H k (some (.tree Γ m gen rows []))}:=by
 intro β a w h
 refine⟨_,h.drop k (.tree Γ m gen rows []) (by rw [hk];simp) ?_⟩
 have hre:=(h.heap k _ hk).2
 subst h1;subst h2
 refine⟨hre.1,?_⟩
 have hown: ∀b,own K (β.drop k) (upd s.H k (some (.tree Γ m gen rows []))) b→own K β s.H b:=by
  rintro b (hx|⟨id,h1,h2⟩)
  ·exact .inl hx
  ·refine .inr ⟨id,fun e0=> ?_,qO h2⟩
   by_cases hi:id=k
   ·subst hi;rw [hk] at e0;cases e0
   ·rw [aC _ _ _ _ hi] at h1;exact h1 e0
 rcases hre.2 with ⟨a1,a2⟩|⟨b,us,a1,a2,a3,a4,a5⟩
 ·exact .inl ⟨a1,a2,fun c hc=>hc.1 rfl⟩
 ·refine .inr ⟨b,us,fun _ _ _=>False,a1,a2,a3,a4,fun i j row x u b1 b2 b3=>Cell.of ?_,fun _ _ _ h=>h.elim,fun _ _ _ _ _ h=>h.elim,fun c=>⟨fun hc=>absurd rfl hc.1,fun⟨_,_,hc⟩=>hc.elim⟩⟩
  rcases h3 with rfl|h3
  ·simp at b1
  ·have:(ndOf Γ m).kid j=none:=by unfold Nd.kid;rw [h3];rfl
   rw [this]
   exact .frz _ _ _ ((a5 i j row x u b1 b2 b3).mono (Ext.refl _ _) (fun b _=>hown b)) (fun _ h=>h)
theorem aEE{K:Ctx}{s:S}(k:Nat){Γ:List Nd}{m gen:Nat}{rows:List (List T)}(hk:s.H k=some (.tree Γ m gen rows []))(hn:Nat.ble K.n0 k=true):
  s.le K {s with H:=upd s.H k (some (.arr (ndOf Γ m).ty gen (ndOf Γ m).size rows))}:=by
 have hn0:=Nat.le_of_ble_eq_true hn
 intro β a w h
 refine⟨_,h.drop k (.arr (ndOf Γ m).ty gen (ndOf Γ m).size rows) (by rw [hk];simp) ?_⟩
 have hre:=(h.heap k _ hk).2
 have hown: ∀b,own K (β.drop k) (upd s.H k (some (.arr (ndOf Γ m).ty gen (ndOf Γ m).size rows))) b→own K β s.H b:=by
  rintro b (hx|⟨id,h1,h2⟩)
  ·exact .inl hx
  ·refine .inr ⟨id,fun e0=> ?_,qO h2⟩
   by_cases hi:id=k
   ·subst hi;rw [hk] at e0;cases e0
   ·rw [aC _ _ _ _ hi] at h1;exact h1 e0
 refine⟨hre.1,?_⟩
 rcases hre.2 with ⟨a1,a2,_⟩|⟨b,us,B,a1,a2,a3,a4,a5,a6,a7,a8⟩
 ·exact .inl ⟨a1,a2⟩
 ·refine .inr ⟨b,us,a1,a2,a3,a4,fun i j row x u b1 b2 b3=>(a5 i j row x u b1 b2 b3).none.shed hown ?_⟩
  intro c hc hx
  have hn:At β k c:= .inr ((a8 c).2 ⟨i,j,hc⟩)
  rcases hx with hx|⟨id,h1,h2⟩
  ·obtain⟨x1,x2⟩:=h.xold c hx
   rcases(h.fresh k c hn).1 with hlt|hge
   ·exact x2 hlt
   ·omega
  ·have:=h.inj _ _ _ (qO h2) hn
   subst this
   rcases h2 with ⟨g,h2⟩|h2
   ·have h3:β id=some (some c,g):=h2
    rw [a1] at h3;cases h3
    exact(a6 i j _ hc).2.2 rfl
   ·exact h2.1 rfl
def Map.split(β:Map)(k k':Nat)(q:Option Nat)(N:Nat→Prop):Map:=
 ⟨fun i=>bif Nat.beq i k' then some (q,1) else β i,fun id b=>(id=k'∧N b)∨(id=k∧id≠k'∧β.n k b∧ ¬N b∧q≠some b)∨(id≠k'∧id≠k∧β.n id b)⟩
theorem aDt{i k:Nat}(h:i≠k):Nat.beq i k=false:=by
 cases hh:Nat.beq i k with
 |false=>rfl
 |true=>exact absurd (Nat.eq_of_beq_eq_true hh) h
theorem oP(β:Map)(k k':Nat)(q:Option Nat)(N:Nat→Prop):β.split k k' q N k'=some (q,1):=by simp [Map.split]
theorem i8(β:Map)(k k':Nat)(q:Option Nat)(N:Nat→Prop)(id:Nat)(h:id≠k'):β.split k k' q N id=β id:=by simp [Map.split,aDt h]
theorem aFm{β:Map}{k k':Nat}{q:Option Nat}{N:Nat→Prop}(hq: ∀b,q=some b→β.n k b)(hN: ∀b,N b→β.n k b){id b:Nat}(h:At (β.split k k' q N) id b):
  (id=k'∧β.n k b∧(q=some b∨N b))∨(id≠k'∧At β id b∧(id=k→(∃g,β k=some (some b,g))∨(¬N b∧q≠some b))):=by
 rcases h with ⟨g,h⟩|⟨rfl,h⟩|⟨rfl,h1,h2,h3,h4⟩|⟨h1,h2,h3⟩
 ·by_cases hi:id=k'
  ·subst hi;rw [oP] at h;cases h;exact .inl ⟨rfl,hq _ rfl,.inl rfl⟩
  ·rw [i8 _ _ _ _ _ _ hi] at h;exact .inr ⟨hi,.inl ⟨g,h⟩,fun e=> .inl ⟨g,e▸h⟩⟩
 ·exact .inl ⟨rfl,hN b h,.inr h⟩
 ·exact .inr ⟨h1,.inr h2,fun _=> .inr ⟨h3,h4⟩⟩
 ·exact .inr ⟨h1,.inr h3,fun e=>absurd e h2⟩
theorem Rel.split{K:Ctx}{β:Map}{s:S}{a:Act}{w:World}(h:Rel K β s a w)(k k':Nat)(q:Option Nat)(N:Nat→Prop)(e1 e2:E)(hk:s.H k≠none)(hu:s.u k'=false)
  (hq: ∀b,q=some b→β.n k b∧ ¬N b) (hN: ∀b,N b→β.n k b) (hroot: ∀b g,β k=some (some b,g)→ ¬β.n k b)
  (he1:(∀b,own K (β.split k k' q N) (upd (upd s.H k (some e1)) k' (some e2)) b→own K β s.H b)→RE (β.split k k' q N) w (own K (β.split k k' q N) (upd (upd s.H k (some e1)) k' (some e2))) k e1)
  (he2:(∀b,own K (β.split k k' q N) (upd (upd s.H k (some e1)) k' (some e2)) b→own K β s.H b)→RE (β.split k k' q N) w (own K (β.split k k' q N) (upd (upd s.H k (some e1)) k' (some e2))) k' e2):
  Rel K (β.split k k' q N) {t:=s.t,H:=upd (upd s.H k (some e1)) k' (some e2),u:=upd s.u k' true} a w:=by
 have hku:s.u k=true:=by
  cases hh:s.H k with
  |none=>exact absurd hh hk
  |some e0=>exact(h.heap k e0 hh).1
 have hne:k≠k':=by intro e;subst e;rw [hku] at hu;cases hu
 have hat:= @aFm β k k' q N (fun b hb=>(hq b hb).1) hN
 have hown: ∀b,own K (β.split k k' q N) (upd (upd s.H k (some e1)) k' (some e2)) b→own K β s.H b:=by
  rintro b (hx|⟨id,h1,h2⟩)
  ·exact .inl hx
  ·rcases hat h2 with ⟨_,h3,_⟩|⟨h3,h4,_⟩
   ·exact .inr ⟨k,hk,.inr h3⟩
   ·refine .inr ⟨id,fun e0=> ?_,h4⟩
    rw [aC _ _ _ _ h3] at h1
    by_cases hi:id=k
    ·subst hi;exact hk e0
    ·rw [aC _ _ _ _ hi] at h1;exact h1 e0
 have hnone:=h.dom k' hu
 have hβ0: ∀id x,β id=some x→β.split k k' q N id=some x:=fun id x hx=>by
  rw [i8 _ _ _ _ _ _ (by intro e;subst e;rw [hnone] at hx;cases hx)];exact hx
 have hm:MLe β (β.split k k' q N):=MLe.of hβ0
 refine {h with base:= ?_,low:= ?_,dom:= ?_,domn:= ?_,inj:= ?_,fresh:= ?_,heap:= ?_,slots:=fun i=>(h.slots i).mono (Ext.refl _ _) (fun b _=>hown b) hm (Shaped.refl _ _)}
 ·refine h.base.keep (fun id hid=>i8 _ _ _ _ _ _ ?_)
  intro e;subst e;have:=h.low id hid;rw [hu] at this;cases this
 ·intro id hid
  show upd s.u k' true id=true
  by_cases e:id=k'
  ·subst e;exact aF _ _ _
  ·rw [aC _ _ _ _ e];exact h.low id hid
 ·intro id hid
  have hid':upd s.u k' true id=false:=hid
  by_cases e:id=k'
  ·subst e;rw [aF] at hid';cases hid'
  ·rw [aC _ _ _ _ e] at hid';rw [i8 _ _ _ _ _ _ e];exact h.dom id hid'
 ·intro id b hid hb
  have hid':upd s.u k' true id=false:=hid
  have e:id≠k':=by intro e;subst e;rw [aF] at hid';cases hid'
  rw [aC _ _ _ _ e] at hid'
  rcases hb with ⟨h1,_⟩|⟨rfl,_,h1,_⟩|⟨_,_,h1⟩
  ·exact e h1
  ·exact h.domn _ b hid' h1
  ·exact h.domn id b hid' h1
 ·intro id id' b h1 h2
  rcases hat h1 with ⟨rfl,a1,a2⟩|⟨a1,a2,a3⟩<;>rcases hat h2 with ⟨c0,c1,c2⟩|⟨c1,c2,c3⟩
  ·exact c0.symm
  ·have:=h.inj _ _ b (.inr a1) c2
   subst this
   rcases c3 rfl with ⟨g,hg⟩|⟨d1,d2⟩
   ·exact absurd a1 (hroot b g hg)
   ·rcases a2 with a2|a2
    ·exact absurd a2 d2
    ·exact absurd a2 d1
  ·subst c0
   have:=h.inj _ _ b (.inr c1) a2
   subst this
   rcases a3 rfl with ⟨g,hg⟩|⟨d1,d2⟩
   ·exact absurd c1 (hroot b g hg)
   ·rcases c2 with c2|c2
    ·exact absurd c2 d2
    ·exact absurd c2 d1
  ·exact h.inj _ _ b a2 c2
 ·intro id b hb
  rcases hat hb with ⟨_,a1,_⟩|⟨_,a2,_⟩
  ·exact h.fresh k b (.inr a1)
  ·exact h.fresh id b a2
 ·intro id e hx
  have hx:upd (upd s.H k (some e1)) k' (some e2) id=some e:=hx
  show upd s.u k' true id=true∧RE _ w (own K _ (upd (upd s.H k (some e1)) k' (some e2))) id e
  by_cases hi:id=k'
  ·subst hi
   rw [aF] at hx;cases hx
   exact⟨aF _ _ _,he2 hown⟩
  ·rw [aC _ _ _ _ hi] at hx⊢
   by_cases hi2:id=k
   ·subst hi2
    rw [aF] at hx;cases hx
    exact⟨hku,he1 hown⟩
   ·rw [aC _ _ _ _ hi2] at hx
    obtain⟨h1,h2⟩:=h.heap id e hx
    exact⟨h1,h2.mono (Ext.refl _ _) (fun b _=>hown b) hm (hβ0 id) (Shaped.refl _ _) (fun _ _=>rfl) (fun b=>⟨fun h=>by
     rcases h with ⟨h,_⟩|⟨h,_⟩|⟨_,_,h⟩
     ·exact absurd h hi
     ·exact absurd h hi2
     ·exact h,fun h=> .inr (.inr ⟨hi,hi2,h⟩)⟩)⟩
def jX(j:Nat):List (Nat×Nat×V)→Bool
 | []=>true
 |h::hs=> !(Nat.beq h.2.1 j)&&jX j hs
theorem nM{j:Nat}: ∀{hs:List (Nat×Nat×V)},jX j hs=true→ ∀i v,(i,j,v)∉hs
 | [],_,_,_,h=>by cases h
 |h::hs,hc,i,v,hm=>by
  simp only [jX,Bool.and_eq_true,Bool.not_eq_true'] at hc
  rcases List.mem_cons.1 hm with rfl|hm
  ·simp at hc
  ·exact nM hc.2 i v hm
theorem aDc{K:Ctx}{s:S}(k k' i j m2:Nat){Γ:List Nd}{m gen:Nat}{rows:List (List T)}{row:List T}{rows2:List (List T)}{hs:List (Nat×Nat×V)}(hk:s.H k=some (.tree Γ m gen rows hs))(hu:s.u k'=false)
  (hi:rows[i]? =some row) (hj:row[j]? =some (.sl rows2)) (hm:(ndOf Γ m).kid j=some m2) (hc:jX j hs=true):
  s.le K {t:=s.t,H:=upd (upd s.H k (some (.tree Γ m gen rows ((i,j,.msl k' 1 (ndOf Γ m2).size 0 rows2.length)::hs)))) k' (some (.tree Γ m2 1 rows2 [])),u:=upd s.u k' true}:=by
 intro β a w h
 have hku:=(h.heap k _ hk).1
 have hne:k≠k':=by intro e;subst e;rw [hku] at hu;cases hu
 have hre:=(h.heap k _ hk).2
 rcases hre.2 with ⟨a1,a2,_⟩|⟨b,us,B,a1,a2,a3,a4,a5,a6,a7,a8⟩
 ·rw [a2] at hi;simp at hi
 have hlt:=(List.getElem?_eq_some_iff.1 hi).1
 have hjs:j<(ndOf Γ m).size:=by rw [←a4 row (List.mem_of_getElem? hi)];exact(List.getElem?_eq_some_iff.1 hj).1
 have hidx:i*(ndOf Γ m).size+j<us.size:=by
  have:(i+1)*(ndOf Γ m).size≤rows.length*(ndOf Γ m).size:=Nat.mul_le_mul_right _ hlt
  rw [Nat.add_mul] at this;omega
 have hcell:=(a5 i j row _ us[i*(ndOf Γ m).size+j] hi hj (Array.getElem?_eq_getElem hidx)).2 (fun v=>nM hc _ _)
 rw [hm] at hcell
 have hroot: ∀c g,β k=some (some c,g)→ ¬β.n k c:=by
  intro c g hc hn
  rw [a1] at hc;cases hc
  obtain⟨i',j',hb⟩:=(a8 b).1 hn
  exact(a6 i' j' b hb).2.2 rfl
 generalize hU:us[i*(ndOf Γ m).size+j]=U at hcell
 -- the cell's value under the new map, and the rest of the rows
 have rest: ∀(q:Option Nat) (N:Nat→Prop),(∀c,B i j c↔(q=some c∨N c))→(∀(X:Nat→Prop),RV (β.split k k' q N) w X (.msl k' 1 (ndOf Γ m2).size 0 rows2.length) U)→
   ∀X,(∀c,X c→own K β s.H c)→RE (β.split k k' q N) w X k (.tree Γ m gen rows ((i,j,.msl k' 1 (ndOf Γ m2).size 0 rows2.length)::hs)):=by
  intro q N hB hv X hX
  have hm':MLe β (β.split k k' q N):=MLe.of (fun id x hx=>by
   have:id≠k':=by intro e;subst e;rw [h.dom _ hu] at hx;cases hx
   rw [i8 _ _ _ _ _ _ this];exact hx)
  refine⟨hre.1,.inr ⟨b,us,fun i' j' c=>B i' j' c∧ ¬(i'=i∧j'=j),by rw [i8 _ _ _ _ _ _ hne];exact a1,a2,a3,a4,fun i' j' row' x u b1 b2 b3=>⟨fun v hv'=> ?_,fun hn=> ?_⟩,
   fun i' j' c hc=>a6 i' j' c hc.1,fun i1 j1 i2 j2 c h1 h2=>a7 _ _ _ _ c h1.1 h2.1,fun c=> ?_⟩⟩
  ·rcases List.mem_cons.1 hv' with e|hv'
   ·simp only [Prod.mk.injEq] at e
    obtain⟨rfl,rfl,rfl⟩:=e
    have:u=U:=by
     rw [←hU]
     rw [Array.getElem?_eq_getElem hidx] at b3
     exact(Option.some.inj b3).symm
    subst this
    exact⟨hv X,fun c hc=>hc.2 ⟨rfl,rfl⟩⟩
   ·obtain⟨c1,c2⟩:=(a5 i' j' row' x u b1 b2 b3).1 v hv'
    exact⟨c1.mono (Ext.refl _ _) (fun c _=>hX c) hm' (Shaped.refl _ _),fun c hx=>c2 c hx.1⟩
  ·have hnij: ¬(i'=i∧j'=j):=by rintro⟨rfl,rfl⟩;exact hn _ List.mem_cons_self
   exact(((a5 i' j' row' x u b1 b2 b3).2 (fun v hv=>hn v (List.mem_cons_of_mem _ hv))).mono (Ext.refl _ _) (fun c _=>hX c) (fun _ _=>rfl)).iff (fun c=>⟨fun h=>h.1,fun h=>⟨h,hnij⟩⟩)
  ·constructor
   ·rintro(⟨h1,_⟩|⟨_,_,h1,h2,h3⟩|⟨_,h1,_⟩)
    ·exact absurd h1 hne
    ·obtain⟨i',j',hb⟩:=(a8 c).1 h1
     refine⟨i',j',hb,?_⟩
     rintro⟨rfl,rfl⟩
     rcases(hB c).1 hb with h4|h4
     ·exact h3 h4
     ·exact h2 h4
    ·exact absurd rfl h1
   ·rintro⟨i',j',hb,hn⟩
    refine .inr (.inl ⟨rfl,hne,(a8 c).2 ⟨i',j',hb⟩,fun h4=> ?_,fun h4=> ?_⟩)
    ·exact hn (a7 _ _ _ _ c hb ((hB c).2 (.inr h4)))
    ·exact hn (a7 _ _ _ _ c hb ((hB c).2 (.inl h4)))
 generalize hN0:B i j=N0 at hcell rest
 cases hcell with
 |nil _ _ hN=>
  refine⟨_,h.split k k' none (fun _=>False) _ (.tree Γ m2 1 [] []) (by rw [hk];simp) hu (fun b hb=>by cases hb) (fun _ h=>h.elim) hroot (fun hown=>rest none (fun _=>False) (fun c=>⟨fun h=>absurd h (hN c),fun h=>by rcases h with h|h;cases h;exact h.elim⟩)
   (fun X=> .msl0 k' 1 _ (Nat.le_refl _) (oP _ _ _ _ _)) _ hown) (fun hown=>⟨Nat.le_refl _,.inl ⟨oP _ _ _ _ _,rfl,fun c hc=> ?_⟩⟩)⟩
  rcases hc with ⟨_,h⟩|⟨h,_⟩|⟨h,_⟩
  ·exact h
  ·exact hne h.symm
  ·exact h rfl
 |own _ _ b2 cap us2 B2 _ hw hs hmx hl hsz hr hB hd hN=>
  have hn2:β.n k b2:=(a8 b2).2 ⟨i,j,by rw [hN0];exact(hN b2).2 (.inl rfl)⟩
  refine⟨_,h.split k k' (some b2) (fun c=> ∃i j,B2 i j c) _ (.tree Γ m2 1 rows2 []) (by rw [hk];simp) hu (fun b hb=>by cases hb;exact⟨hn2,fun⟨i',j',h'⟩=>(hB i' j' _ h').2.2 rfl⟩)
   (fun c hc=>(a8 c).2 ⟨i,j,by rw [hN0];exact(hN c).2 (.inr hc)⟩) hroot
   (fun hown=>rest (some b2) (fun c=> ∃i j,B2 i j c) (fun c=>⟨fun h=>by rcases(hN c).1 h with h|h;exact .inl (by rw [h]);exact .inr h,fun h=>(hN c).2 (by rcases h with h|h;cases h;exact .inl rfl;exact .inr h)⟩)
    (fun X=> ?_) _ hown) (fun hown=>⟨Nat.le_refl _,.inr ⟨b2,us2,B2,oP _ _ _ _ _,hw,by rw [hs];exact Nat.mul_le_mul_right _ hl,hsz,fun i' j' row' x u c1 c2 c3=>Cell.of ((hr i' j' row' x u c1 c2 c3).mono (Ext.refl _ _) (fun c _=>hown c) (fun _ _=>rfl)),hB,hd,fun c=> ?_⟩⟩)⟩
  ·have:=RV.msl (β:=β.split k k' (some b2) (fun c=> ∃i j,B2 i j c)) (w:=w) (X:=X) k' 1 (ndOf Γ m2).size 0 rows2.length cap b2 us2.size (ndOf Γ m2).ty (Nat.le_refl _) (oP _ _ _ _ _) (Array.getElem?_eq_some_iff.1 hw).1 (by unfold World.shape?;rw [hw]) (by rw [Nat.zero_add];exact hs.symm) hl hmx
   rw [Nat.zero_mul] at this
   exact this
  ·constructor
   ·rintro(⟨_,h⟩|⟨h,_⟩|⟨h,_⟩)
    ·exact h
    ·exact absurd h.symm hne
    ·exact absurd rfl h
   ·intro h;exact .inl ⟨rfl,h⟩
def Map.merge(β:Map)(k k' gen:Nat):Map:=
 ⟨fun i=>bif Nat.beq i k' then some (none,gen+1) else β i,fun id b=>(id=k∧(β.n k b∨At β k' b))∨(id≠k∧id≠k'∧β.n id b)⟩
theorem R4(β:Map)(k k' gen:Nat):β.merge k k' gen k'=some (none,gen+1):=by simp [Map.merge]
theorem jC(β:Map)(k k' gen id:Nat)(h:id≠k'):β.merge k k' gen id=β id:=by simp [Map.merge,aDt h]
theorem aFH{β:Map}{k k' gen id b:Nat}(hne:k≠k')(h:At (β.merge k k' gen) id b):id≠k'∧(At β id b∨(id=k∧At β k' b)):=by
 rcases h with ⟨g,h⟩|⟨rfl,h⟩|⟨h1,h2,h3⟩
 ·by_cases hi:id=k'
  ·subst hi;rw [R4] at h;cases h
  ·rw [jC _ _ _ _ _ hi] at h;exact⟨hi,.inl (.inl ⟨g,h⟩)⟩
 ·rcases h with h|h
  ·exact⟨hne,.inl (.inr h)⟩
  ·exact⟨hne,.inr ⟨rfl,h⟩⟩
 ·exact⟨h2,.inl (.inr h3)⟩
theorem Rel.merge{K:Ctx}{β:Map}{s:S}{a:Act}{w:World}(h:Rel K β s a w)(k k' gen:Nat)(q:Option Nat)(e1:E)(hk:s.H k≠none)(hk':s.H k'≠none)(hne:k≠k')(hn0:K.n0≤k')(hq:β k'=some (q,gen))(hg:1≤gen)
  (he1:(∀b,own K (β.merge k k' gen) (upd (upd s.H k' none) k (some e1)) b→own K β s.H b)→MLe β (β.merge k k' gen)→RE (β.merge k k' gen) w (own K (β.merge k k' gen) (upd (upd s.H k' none) k (some e1))) k e1):
  Rel K (β.merge k k' gen) {t:=s.t,H:=upd (upd s.H k' none) k (some e1),u:=s.u} a w:=by
 have hku:s.u k'=true:=by
  cases hh:s.H k' with
  |none=>exact absurd hh hk'
  |some e0=>exact(h.heap k' e0 hh).1
 have hku0:s.u k=true:=by
  cases hh:s.H k with
  |none=>exact absurd hh hk
  |some e0=>exact(h.heap k e0 hh).1
 have hat:=fun {id b}=> @aFH β k k' gen id b hne
 have hown: ∀b,own K (β.merge k k' gen) (upd (upd s.H k' none) k (some e1)) b→own K β s.H b:=by
  rintro b (hx|⟨id,h1,h2⟩)
  ·exact .inl hx
  ·obtain⟨h3,h4|⟨rfl,h4⟩⟩:=hat h2
   ·refine .inr ⟨id,fun e0=> ?_,h4⟩
    by_cases hi:id=k
    ·subst hi;exact hk e0
    ·rw [aC _ _ _ _ hi,aC _ _ _ _ h3] at h1;exact h1 e0
   ·exact .inr ⟨k',hk',h4⟩
 have hm:MLe β (β.merge k k' gen):=by
  intro id q1 g1 hx
  by_cases hi:id=k'
  ·subst hi;rw [hq] at hx;cases hx;exact .inr ⟨hg,none,gen+1,R4 _ _ _ _,Nat.lt_succ_self _⟩
  ·exact .inl (by rw [jC _ _ _ _ _ hi];exact hx)
 refine {h with base:= ?_,dom:= ?_,domn:= ?_,inj:= ?_,fresh:= ?_,heap:= ?_,slots:=fun i=>(h.slots i).mono (Ext.refl _ _) (fun b _=>hown b) hm (Shaped.refl _ _)}
 ·exact h.base.keep (fun id hid=>jC _ _ _ _ _ (by omega))
 ·intro id hid
  have hid':s.u id=false:=hid
  rw [jC _ _ _ _ _ (by intro e;subst e;rw [hku] at hid';cases hid')];exact h.dom id hid'
 ·intro id b hid hb
  have hid':s.u id=false:=hid
  rcases hb with ⟨rfl,_⟩|⟨_,_,h3⟩
  ·rw [hku0] at hid';cases hid'
  ·exact h.domn id b hid' h3
 ·intro id id' b h1 h2
  obtain⟨a1,a2|⟨rfl,a2⟩⟩:=hat h1<;>obtain⟨c1,c2|⟨rfl,c2⟩⟩:=hat h2
  ·exact h.inj _ _ b a2 c2
  ·exact absurd (h.inj _ _ b a2 c2) a1
  ·exact absurd (h.inj _ _ b c2 a2) c1
  ·rfl
 ·intro id b hb
  obtain⟨_,h4|⟨_,h4⟩⟩:=hat hb
  ·exact h.fresh id b h4
  ·exact h.fresh k' b h4
 ·intro id e hx
  have hx:upd (upd s.H k' none) k (some e1) id=some e:=hx
  show s.u id=true∧RE _ w (own K _ (upd (upd s.H k' none) k (some e1))) id e
  by_cases hi:id=k
  ·subst hi
   rw [aF] at hx;cases hx
   exact⟨hku0,he1 hown hm⟩
  ·rw [aC _ _ _ _ hi] at hx
   by_cases hi2:id=k'
   ·subst hi2;rw [aF] at hx;cases hx
   ·rw [aC _ _ _ _ hi2] at hx
    obtain⟨h1,h2⟩:=h.heap id e hx
    exact⟨h1,h2.mono (Ext.refl _ _) (fun b _=>hown b) hm (fun x hx=>by rw [jC _ _ _ _ _ hi2];exact hx) (Shaped.refl _ _) (fun _ _=>rfl) (fun b=>⟨fun h=>by
     rcases h with ⟨h,_⟩|⟨_,_,h⟩
     ·exact absurd h hi
     ·exact h,fun h=> .inr ⟨hi,hi2,h⟩⟩)⟩
theorem aAg{K:Ctx}{s:S}(k k' i j m2 g' z n:Nat){Γ:List Nd}{m gen:Nat}{rows:List (List T)}{row:List T}{rows2:List (List T)}{hs:List (Nat×Nat×V)}(hk:s.H k=some (.tree Γ m gen rows ((i,j,.msl k' g' z 0 n)::hs)))
  (hk':s.H k'=some (.tree Γ m2 g' rows2 [])) (hz:z=(ndOf Γ m2).size) (hn:n=rows2.length) (hne:k≠k') (hn0:Nat.ble K.n0 k'=true) (hi:rows[i]? =some row) (hm:(ndOf Γ m).kid j=some m2) (hjz:Nat.blt j (ndOf Γ m).size=true) (hc:jX j hs=true):
  s.le K {t:=s.t,H:=upd (upd s.H k' none) k (some (.tree Γ m gen (rows.set i (row.set j (.sl rows2))) hs)),u:=s.u}:=by
 subst hz;subst hn
 intro β a w h
 have hn0:=Nat.le_of_ble_eq_true hn0
 obtain⟨q,hq⟩:=vX (h.heap k' _ hk').2
 have hre:=(h.heap k _ hk).2
 have hre2:=(h.heap k' _ hk').2
 refine⟨_,h.merge k k' g' q (.tree Γ m gen (rows.set i (row.set j (.sl rows2))) hs) (by rw [hk];simp) (by rw [hk'];simp) hne hn0 hq hre2.1 (fun hown hm'=>⟨hre.1,?_⟩)⟩
 rcases hre.2 with ⟨a1,a2,_⟩|⟨b,us,B,a1,a2,a3,a4,a5,a6,a7,a8⟩
 ·rw [a2] at hi;simp at hi
 have hlt:=(List.getElem?_eq_some_iff.1 hi).1
 -- the blocks of the slice
 have hrootb:At β k b:= .inl ⟨_,a1⟩
 have hkey: ∀(u:Value),RV β w (own K β s.H) (.msl k' g' (ndOf Γ m2).size 0 rows2.length) u→
   RO Γ w (own K (β.merge k k' g') (upd (upd s.H k' none) k (some (.tree Γ m gen (rows.set i (row.set j (.sl rows2))) hs)))) (some m2) (.sl rows2) u (fun c=>At β k' c):=by
  intro u hu
  rcases dF hu hq with ⟨cap,b2,n2,ty',rfl,hb0,hw,hsh,hnn,hl,hmx⟩|⟨hb0,_,h0,rfl⟩
  ·subst hb0
   rcases hre2.2 with ⟨c1,_⟩|⟨b3,us2,B2,c1,c2,c3,c4,c5,c6,c7,c8⟩
   ·rw [hq] at c1;cases c1
   ·rw [hq] at c1;cases c1
    rw [Nat.zero_mul]
    have hus:us2.size=cap*(ndOf Γ m2).size:=by
     unfold World.shape? at hsh
     rw [c2] at hsh
     simp at hsh
     rw [hsh.2,←hnn,Nat.zero_add]
    refine .own m2 rows2 b2 cap us2 B2 _ c2 hus hmx hl c4 (fun i' j' row' x u d1 d2 d3=>(c5 i' j' row' x u d1 d2 d3).none.mono (Ext.refl _ _) (fun c _=>hown c) (fun _ _=>rfl)) c6 c7 (fun c=>⟨?_,?_⟩)
    ·rintro(⟨g,hg⟩|hg)
     ·rw [hq] at hg;cases hg;exact .inl rfl
     ·exact .inr ((c8 c).1 hg)
    ·rintro(rfl|hg)
     ·exact .inl ⟨_,hq⟩
     ·exact .inr ((c8 c).2 hg)
  ·subst hb0
   have:rows2=[]:=List.eq_nil_of_length_eq_zero h0
   subst this
   refine .nil m2 _ (fun c hc=> ?_)
   rcases hc with ⟨g,hg⟩|hg
   ·rw [hq] at hg;cases hg
   ·rcases hre2.2 with ⟨_,_,c3⟩|⟨b3,us2,B2,c1,_⟩
    ·exact c3 c hg
    ·rw [hq] at c1;cases c1
 have hsep: ∀c,At β k' c→ ¬At β k c:=fun c h1 h2=>hne (h.inj _ _ c h2 h1)
 have hBk: ∀i' j' c,B i' j' c→At β k c:=fun i' j' c hc=> .inr ((a8 c).2 ⟨i',j',hc⟩)
 have hjs: ∀(x:T),row[j]? =some x→j<(ndOf Γ m).size:=fun x hx=>by rw [←a4 row (List.mem_of_getElem? hi)];exact(List.getElem?_eq_some_iff.1 hx).1
 have hrl:row.length=(ndOf Γ m).size:=a4 row (List.mem_of_getElem? hi)
 by_cases hjlt:j<row.length
 ·have hidx:i*(ndOf Γ m).size+j<us.size:=by
   have:(i+1)*(ndOf Γ m).size≤rows.length*(ndOf Γ m).size:=Nat.mul_le_mul_right _ hlt
   rw [Nat.add_mul] at this;omega
  have hcell:=a5 i j row row[j] us[i*(ndOf Γ m).size+j] hi (List.getElem?_eq_getElem hjlt) (Array.getElem?_eq_getElem hidx)
  obtain⟨hv0,hB0⟩:=hcell.1 _ List.mem_cons_self
  refine .inr ⟨b,us,fun i' j' c=>B i' j' c∨(i'=i∧j'=j∧At β k' c),by rw [jC _ _ _ _ _ hne];exact a1,a2,by simpa using a3,?_,?_,?_,?_,?_⟩
  ·intro r hr
   rcases List.mem_or_eq_of_mem_set hr with hr|rfl
   ·exact a4 r hr
   ·simpa using hrl
  ·intro i' j' row' x u b1 b2 b3
   by_cases hij:i'=i∧j'=j
   ·obtain⟨rfl,rfl⟩:=hij
    rw [List.getElem?_set_self hlt] at b1;cases b1
    rw [List.getElem?_set_self hjlt] at b2;cases b2
    rw [Array.getElem?_eq_getElem hidx] at b3;cases b3
    refine⟨fun v hv=>absurd hv (nM hc _ _),fun _=> ?_⟩
    rw [hm]
    refine(hkey _ hv0).iff (fun c=>⟨fun h=> ?_,fun h=> .inr ⟨rfl,rfl,h⟩⟩)
    rcases h with h|⟨_,_,h⟩
    ·exact absurd h (hB0 c)
    ·exact h
   ·have hold: ∃row0 x0,rows[i']? =some row0∧row0[j']? =some x0∧x0=x:=by
     by_cases hii:i'=i
     ·subst hii
      rw [List.getElem?_set_self hlt] at b1;cases b1
      rw [List.getElem?_set_ne (by intro e;exact hij ⟨rfl,e.symm⟩)] at b2
      exact⟨row,x,hi,b2,rfl⟩
     ·rw [List.getElem?_set_ne (Ne.symm hii)] at b1
      exact⟨row',x,b1,b2,rfl⟩
    obtain⟨row0,x0,d1,d2,rfl⟩:=hold
    have hc0:=a5 i' j' row0 x0 u d1 d2 b3
    have hiff: ∀c,(B i' j' c∨(i'=i∧j'=j∧At β k' c))↔B i' j' c:=fun c=>⟨fun h=>by
     rcases h with h|⟨h1,h2,_⟩
     ·exact h
     ·exact absurd ⟨h1,h2⟩ hij,.inl⟩
    refine⟨fun v hv=> ?_,fun hn=> ?_⟩
    ·obtain⟨h1,h2⟩:=hc0.1 v (List.mem_cons_of_mem _ hv)
     exact⟨h1.mono (Ext.refl _ _) (fun c _=>hown c) hm' (Shaped.refl _ _),fun c hx=>h2 c ((hiff c).1 hx)⟩
    ·refine((hc0.2 (fun v hv=> ?_)).mono (Ext.refl _ _) (fun c _=>hown c) (fun _ _=>rfl)).iff hiff
     rcases List.mem_cons.1 hv with e|hv
     ·cases e;exact hij ⟨rfl,rfl⟩
     ·exact hn v hv
  ·intro i' j' c hb
   rcases hb with hb|⟨rfl,rfl,hb⟩
   ·simpa using a6 i' j' c hb
   ·refine⟨by simpa using hlt,by omega,fun e=> ?_⟩
    subst e;exact hsep c hb hrootb
  ·intro i1 j1 i2 j2 c h1 h2
   rcases h1 with h1|⟨rfl,rfl,h1⟩<;>rcases h2 with h2|⟨rfl,rfl,h2⟩
   ·exact a7 _ _ _ _ c h1 h2
   ·exact absurd (hBk _ _ c h1) (hsep c h2)
   ·exact absurd (hBk _ _ c h2) (hsep c h1)
   ·exact⟨rfl,rfl⟩
  ·intro c
   constructor
   ·rintro(⟨_,h1|h1⟩|⟨h1,_⟩)
    ·obtain⟨i',j',hb⟩:=(a8 c).1 h1;exact⟨i',j',.inl hb⟩
    ·exact⟨i,j,.inr ⟨rfl,rfl,h1⟩⟩
    ·exact absurd rfl h1
   ·rintro⟨i',j',hb|⟨_,_,hb⟩⟩
    ·exact .inl ⟨rfl,.inl ((a8 c).2 ⟨i',j',hb⟩)⟩
    ·exact .inl ⟨rfl,.inr hb⟩
 ·exact absurd (by rw [hrl];simpa [Nat.blt_eq] using hjz) hjlt
theorem Rel.retell{K:Ctx}{β:Map}{s:S}{a:Act}{w:World}(h:Rel K β s a w)(k:Nat)(e e':E)(hk:s.H k=some e)(he:RE β w (own K β s.H) k e→RE β w (own K β s.H) k e'):
  Rel K β {s with H:=upd s.H k (some e')} a w:=by
 have hown: ∀b,own K β (upd s.H k (some e')) b→own K β s.H b:=by
  rintro b (hx|⟨id,h1,h2⟩)
  ·exact .inl hx
  ·refine .inr ⟨id,fun e0=> ?_,h2⟩
   by_cases hi:id=k
   ·subst hi;rw [hk] at e0;cases e0
   ·rw [aC _ _ _ _ hi] at h1;exact h1 e0
 refine {h with heap:= ?_,slots:=fun i=>(h.slots i).mono (Ext.refl _ _) (fun b _=>hown b) (MLe.refl _) (Shaped.refl _ _)}
 intro id x hx
 have hx:upd s.H k (some e') id=some x:=hx
 by_cases hi:id=k
 ·subst hi
  rw [aF] at hx;cases hx
  obtain⟨h1,h2⟩:=h.heap id e hk
  exact⟨h1,(he h2).mono (Ext.refl _ _) (fun b _=>hown b) (MLe.refl _) (fun _ h=>h) (Shaped.refl _ _) (fun _ _=>rfl)⟩
 ·rw [aC _ _ _ _ hi] at hx
  obtain⟨h1,h2⟩:=h.heap id x hx
  exact⟨h1,h2.mono (Ext.refl _ _) (fun b _=>hown b) (MLe.refl _) (fun _ h=>h) (Shaped.refl _ _) (fun _ _=>rfl)⟩
theorem aEF{K:Ctx}{s:S}(k i j:Nat){Γ:List Nd}{m gen:Nat}{rows:List (List T)}{row:List T}{x:T}{hs:List (Nat×Nat×V)}(hk:s.H k=some (.tree Γ m gen rows hs))(hi:rows[i]? =some row)(hj:row[j]? =some x)(hm:(ndOf Γ m).kid j=none)(hc:jX j hs=true):
  s.le K {s with H:=upd s.H k (some (.tree Γ m gen rows ((i,j,.t x)::hs)))}:=by
 intro β a w h
 refine⟨β,h.retell k _ (.tree Γ m gen rows ((i,j,.t x)::hs)) hk (fun hre=> ?_)⟩
 refine⟨hre.1,?_⟩
 rcases hre.2 with ⟨a1,a2,_⟩|⟨b,us,B,a1,a2,a3,a4,a5,a6,a7,a8⟩
 ·rw [a2] at hi;simp at hi
 refine .inr ⟨b,us,B,a1,a2,a3,a4,fun i' j' row' x' u b1 b2 b3=> ?_,a6,a7,a8⟩
 have hc0:=a5 i' j' row' x' u b1 b2 b3
 refine⟨fun v hv=> ?_,fun hn=>hc0.2 (fun v hv=>hn v (List.mem_cons_of_mem _ hv))⟩
 rcases List.mem_cons.1 hv with e|hv
 ·simp only [Prod.mk.injEq] at e
  obtain⟨rfl,rfl,rfl⟩:=e
  rw [hi] at b1;cases b1
  rw [hj] at b2;cases b2
  have:=hc0.2 (fun v=>nM hc _ _)
  rw [hm] at this
  cases this with|frz _ _ _ h hN=>exact⟨.t _ _ h,hN⟩
 ·exact hc0.1 v hv
theorem aBE{K:Ctx}{s:S}(k i j:Nat){Γ:List Nd}{m gen:Nat}{rows:List (List T)}{row:List T}{x:T}{hs:List (Nat×Nat×V)}(hk:s.H k=some (.tree Γ m gen rows ((i,j,.t x)::hs)))(hi:rows[i]? =some row)(hjz:Nat.blt j (ndOf Γ m).size=true)(hm:(ndOf Γ m).kid j=none)(hc:jX j hs=true):
  s.le K {s with H:=upd s.H k (some (.tree Γ m gen (rows.set i (row.set j x)) hs))}:=by
 intro β a w h
 refine⟨β,h.retell k _ (.tree Γ m gen (rows.set i (row.set j x)) hs) hk (fun hre=> ?_)⟩
 refine⟨hre.1,?_⟩
 rcases hre.2 with ⟨a1,a2,_⟩|⟨b,us,B,a1,a2,a3,a4,a5,a6,a7,a8⟩
 ·rw [a2] at hi;simp at hi
 have hlt:=(List.getElem?_eq_some_iff.1 hi).1
 have hrl:row.length=(ndOf Γ m).size:=a4 row (List.mem_of_getElem? hi)
 have hjlt:j<row.length:=by rw [hrl];simpa [Nat.blt_eq] using hjz
 refine .inr ⟨b,us,B,a1,a2,by simpa using a3,fun r hr=> ?_,fun i' j' row' x' u b1 b2 b3=> ?_,fun i' j' c hb=>by simpa using a6 i' j' c hb,a7,a8⟩
 ·rcases List.mem_or_eq_of_mem_set hr with hr|rfl
  ·exact a4 r hr
  ·simpa using hrl
 ·by_cases hij:i'=i∧j'=j
  ·obtain⟨rfl,rfl⟩:=hij
   rw [List.getElem?_set_self hlt] at b1;cases b1
   rw [List.getElem?_set_self hjlt] at b2;cases b2
   have hc0:=(a5 i' j' row row[j'] u hi (List.getElem?_eq_getElem hjlt) b3).1 _ List.mem_cons_self
   refine⟨fun v hv=>absurd hv (nM hc _ _),fun _=> ?_⟩
   rw [hm]
   obtain⟨h1,h2⟩:=hc0
   cases h1 with|t _ _ h1=>exact .frz _ _ _ h1 h2
  ·have hold: ∃row0 x0,rows[i']? =some row0∧row0[j']? =some x0∧x0=x':=by
    by_cases hii:i'=i
    ·subst hii
     rw [List.getElem?_set_self hlt] at b1;cases b1
     rw [List.getElem?_set_ne (by intro e;exact hij ⟨rfl,e.symm⟩)] at b2
     exact⟨row,x',hi,b2,rfl⟩
    ·rw [List.getElem?_set_ne (Ne.symm hii)] at b1
     exact⟨row',x',b1,b2,rfl⟩
   obtain⟨row0,x0,d1,d2,rfl⟩:=hold
   have hc0:=a5 i' j' row0 x0 u d1 d2 b3
   refine⟨fun v hv=>hc0.1 v (List.mem_cons_of_mem _ hv),fun hn=>hc0.2 (fun v hv=> ?_)⟩
   rcases List.mem_cons.1 hv with e|hv
   ·cases e;exact hij ⟨rfl,rfl⟩
   ·exact hn v hv
end Go.Lift
