/- Arrays whose rows own what hangs behind some of their cells: steps. -/
import Derived.Test.YtlbojjldejlgaaaGreatTLiftJ
namespace Go.Lift
open Go
theorem w3{β:Map}{w:World}{X:Nat→Prop}{id:Nat}{Γ:List Nd}{m gen:Nat}{rows:List (List T)}{hs:List (Nat×Nat×V)}(h:RE β w X id (.tree Γ m gen rows hs)): ∃q,β id=some (q,gen):=by
 rcases h.2 with ⟨h1,_⟩|⟨b,us,_,h1,_⟩
 ·exact⟨_,h1⟩
 exact⟨_,h1⟩
def Map.drop(β:Map)(k:Nat):Map:=⟨β.f,fun id b=>id≠k∧β.n id b⟩
theorem lM{β:Map}{k id b:Nat}(h:At (β.drop k) id b):At β id b:=by
 rcases h with h|h
 ·exact .inl h
 exact .inr h.2
theorem Rel.drop{K:Ctx}{β:Map}{s:S}{a:Act}{w:World}(h:Rel K β s a w)(k:Nat)(e':E)(hk:s.H k≠none)
  (he:RE (β.drop k) w (own K (β.drop k) (upd s.H k (some e'))) k e'):Rel K (β.drop k) {s with H:=upd s.H k (some e')} a w:=by
 have hown: ∀b,own K (β.drop k) (upd s.H k (some e')) b→own K β s.H b:=by
  rintro b (hx|⟨id,h1,h2⟩)
  ·exact .inl hx
  refine .inr ⟨id,fun e0=>?_,lM h2⟩;by_cases hi:id=k
  ·subst hi;exact hk e0
  rw [aH _ _ _ _ hi] at h1;exact h1 e0
 have hm:MLe β (β.drop k):=fun _ _ _ hx=> .inl hx;refine {h with base:=fun id hid=>h.base id hid,dom:=fun id hid=>h.dom id hid,domn:=fun id b hid hb=>h.domn id b hid hb.2,inj:=fun id id' b h1 h2=>h.inj id id' b (lM h1) (lM h2),fresh:=fun id b hb=>h.fresh id b (lM hb),heap:= ?_,slots:=fun i=>(h.slots i).mono (Ext.refl _ _) (fun b _=>hown b) hm (Shaped.refl _ _)};intro id e hx;have hx:upd s.H k (some e') id=some e:=hx;by_cases hi:id=k
 ·subst hi;rw [aI] at hx;cases hx;cases hh:s.H id with
  |none=>exact absurd hh hk
  |some e0=>exact⟨(h.heap id e0 hh).1,he⟩
 rw [aH _ _ _ _ hi] at hx;obtain⟨h1,h2⟩:=h.heap id e hx;exact⟨h1,h2.mono (Ext.refl _ _) (fun b _=>hown b) hm (fun _ h=>h) (Shaped.refl _ _) (fun _ _=>rfl) fun b=>⟨fun h=>h.2,fun h=>⟨hi,h⟩⟩⟩
theorem aGu{K:Ctx}{s:S}(k:Nat){ty:TypeId}{gen size:Nat}{rows:List (List T)}(Γ:List Nd)(m:Nat)(hk:s.H k=some (.arr ty gen size rows))(h1:(ndOf Γ m).ty=ty)(h2:(ndOf Γ m).size=size)
  (h3:rows=[]∨(ndOf Γ m).kids=[]):s.le K {s with H:=upd s.H k (some (.tree Γ m gen rows []))}:=by
 intro β a w h;refine⟨_,h.drop k (.tree Γ m gen rows []) (by rw [hk];simp) ?_⟩;have hre:=(h.heap k _ hk).2;subst h1;subst h2;refine⟨hre.1,?_⟩;have hown: ∀b,own K (β.drop k) (upd s.H k (some (.tree Γ m gen rows []))) b→own K β s.H b:=by
  rintro b (hx|⟨id,h1,h2⟩)
  ·exact .inl hx
  refine .inr ⟨id,fun e0=>?_,lM h2⟩;by_cases hi:id=k
  ·subst hi;rw [hk] at e0;cases e0
  rw [aH _ _ _ _ hi] at h1;exact h1 e0
 rcases hre.2 with ⟨a1,a2⟩|⟨b,us,a1,a2,a3,a4,a5⟩
 ·exact .inl ⟨a1,a2,fun c hc=>hc.1 rfl⟩
 refine .inr ⟨b,us,fun _ _ _=>False,a1,a2,a3,a4,fun i j row x u b1 b2 b3=>Cell.of ?_,fun _ _ _ h=>h.elim,fun _ _ _ _ _ h=>h.elim,fun c=>⟨fun hc=>absurd rfl hc.1,fun⟨_,_,hc⟩=>hc.elim⟩⟩;rcases h3 with rfl|h3
 ·simp at b1
 have:(ndOf Γ m).kid j=none:=by unfold Nd.kid;rw [h3];rfl
 rw [this];exact .frz _ _ _ ((a5 i j row x u b1 b2 b3).mono (Ext.refl _ _) fun b _=>hown b) fun _ h=>h
theorem aGv{K:Ctx}{s:S}(k:Nat){Γ:List Nd}{m gen:Nat}{rows:List (List T)}(hk:s.H k=some (.tree Γ m gen rows []))(hn:Nat.ble K.n0 k=true):
  s.le K {s with H:=upd s.H k (some (.arr (ndOf Γ m).ty gen (ndOf Γ m).size rows))}:=by
 have hn0:=rZ hn;intro β a w h;refine⟨_,h.drop k (.arr (ndOf Γ m).ty gen (ndOf Γ m).size rows) (by rw [hk];simp) ?_⟩;have hre:=(h.heap k _ hk).2;have hown: ∀b,own K (β.drop k) (upd s.H k (some (.arr (ndOf Γ m).ty gen (ndOf Γ m).size rows))) b→own K β s.H b:=by
  rintro b (hx|⟨id,h1,h2⟩)
  ·exact .inl hx
  refine .inr ⟨id,fun e0=>?_,lM h2⟩;by_cases hi:id=k
  ·subst hi;rw [hk] at e0;cases e0
  rw [aH _ _ _ _ hi] at h1;exact h1 e0
 refine⟨hre.1,?_⟩;rcases hre.2 with ⟨a1,a2,_⟩|⟨b,us,B,a1,a2,a3,a4,a5,a6,a7,a8⟩
 ·exact .inl ⟨a1,a2⟩
 refine .inr ⟨b,us,a1,a2,a3,a4,fun i j row x u b1 b2 b3=>(a5 i j row x u b1 b2 b3).none.shed hown ?_⟩;intro c hc hx;have hn:At β k c:= .inr ((a8 c).2 ⟨i,j,hc⟩);rcases hx with hx|⟨id,h1,h2⟩
 ·obtain⟨x1,x2⟩:=h.xold c hx;rcases(h.fresh k c hn).1 with hlt|hge
  ·exact x2 hlt
  omega
 have:=h.inj _ _ _ (lM h2) hn;subst this;rcases h2 with ⟨g,h2⟩|h2
 ·have h3:β id=some (some c,g):=h2;rw [a1] at h3;cases h3;exact(a6 i j _ hc).2.2 rfl
 exact h2.1 rfl
def Map.split(β:Map)(k k':Nat)(q:Option Nat)(N:Nat→Prop):Map:=
 ⟨fun i=>bif Nat.beq i k' then some (q,1) else β i,fun id b=>(id=k'∧N b)∨(id=k∧id≠k'∧β.n k b∧ ¬N b∧q≠some b)∨(id≠k'∧id≠k∧β.n id b)⟩
theorem aFh{i k:Nat}(h:i≠k):Nat.beq i k=false:=by
 cases hh:Nat.beq i k with
 |false=>rfl
 |true=>exact absurd (fV hh) h
theorem o7(β:Map)(k k':Nat)(q:Option Nat)(N:Nat→Prop):β.split k k' q N k'=some (q,1):=by simp [Map.split]
theorem jF(β:Map)(k k':Nat)(q:Option Nat)(N:Nat→Prop)(id:Nat)(h:id≠k'):β.split k k' q N id=β id:=by simp [Map.split,aFh h]
theorem aHl{β:Map}{k k':Nat}{q:Option Nat}{N:Nat→Prop}(hq: ∀b,q=some b→β.n k b)(hN: ∀b,N b→β.n k b){id b:Nat}(h:At (β.split k k' q N) id b):
  (id=k'∧β.n k b∧(q=some b∨N b))∨(id≠k'∧At β id b∧(id=k→(∃g,β k=some (some b,g))∨(¬N b∧q≠some b))):=by
 rcases h with ⟨g,h⟩|⟨rfl,h⟩|⟨rfl,h1,h2,h3,h4⟩|⟨h1,h2,h3⟩
 ·by_cases hi:id=k'
  ·subst hi;rw [o7] at h;cases h;exact .inl ⟨rfl,hq _ rfl,.inl rfl⟩
  rw [jF _ _ _ _ _ _ hi] at h;exact .inr ⟨hi,.inl ⟨g,h⟩,fun e=> .inl ⟨g,e▸h⟩⟩
 ·exact .inl ⟨rfl,hN b h,.inr h⟩
 ·exact .inr ⟨h1,.inr h2,fun _=> .inr ⟨h3,h4⟩⟩
 exact .inr ⟨h1,.inr h3,fun e=>absurd e h2⟩
theorem Rel.split{K:Ctx}{β:Map}{s:S}{a:Act}{w:World}(h:Rel K β s a w)(k k':Nat)(q:Option Nat)(N:Nat→Prop)(e1 e2:E)(hk:s.H k≠none)(hu:s.u k'=false)
  (hq: ∀b,q=some b→β.n k b∧ ¬N b) (hN: ∀b,N b→β.n k b) (hroot: ∀b g,β k=some (some b,g)→ ¬β.n k b)
  (he1:(∀b,own K (β.split k k' q N) (upd (upd s.H k (some e1)) k' (some e2)) b→own K β s.H b)→RE (β.split k k' q N) w (own K (β.split k k' q N) (upd (upd s.H k (some e1)) k' (some e2))) k e1)
  (he2:(∀b,own K (β.split k k' q N) (upd (upd s.H k (some e1)) k' (some e2)) b→own K β s.H b)→RE (β.split k k' q N) w (own K (β.split k k' q N) (upd (upd s.H k (some e1)) k' (some e2))) k' e2):
  Rel K (β.split k k' q N) {t:=s.t,H:=upd (upd s.H k (some e1)) k' (some e2),u:=upd s.u k' true} a w:=by
 have hku:s.u k=true:=by
  cases hh:s.H k with
  |none=>exact absurd hh hk
  |some e0=>exact(h.heap k e0 hh).1
 have hne:k≠k':=by intro e;subst e;rw [hku] at hu;cases hu
 have hat:= @aHl β k k' q N (fun b hb=>(hq b hb).1) hN;have hown: ∀b,own K (β.split k k' q N) (upd (upd s.H k (some e1)) k' (some e2)) b→own K β s.H b:=by
  rintro b (hx|⟨id,h1,h2⟩)
  ·exact .inl hx
  rcases hat h2 with ⟨_,h3,_⟩|⟨h3,h4,_⟩
  ·exact .inr ⟨k,hk,.inr h3⟩
  refine .inr ⟨id,fun e0=>?_,h4⟩;rw [aH _ _ _ _ h3] at h1;by_cases hi:id=k
  ·subst hi;exact hk e0
  rw [aH _ _ _ _ hi] at h1;exact h1 e0
 have hnone:=h.dom k' hu;have hβ0: ∀id x,β id=some x→β.split k k' q N id=some x:=fun id x hx=>by
  rw [jF _ _ _ _ _ _ (by intro e;subst e;rw [hnone] at hx;cases hx)];exact hx
 have hm:MLe β (β.split k k' q N):=MLe.of hβ0;refine {h with base:= ?_,low:= ?_,dom:= ?_,domn:= ?_,inj:= ?_,fresh:= ?_,heap:= ?_,slots:=fun i=>(h.slots i).mono (Ext.refl _ _) (fun b _=>hown b) hm (Shaped.refl _ _)}
 ·refine h.base.keep fun id hid=>jF _ _ _ _ _ _ ?_;intro e;subst e;have:=h.low id hid;rw [hu] at this;cases this
 ·intro id hid;show upd s.u k' true id=true;by_cases e:id=k'
  ·subst e;exact aI _ _ _
  rw [aH _ _ _ _ e];exact h.low id hid
 ·intro id hid;have hid':upd s.u k' true id=false:=hid;by_cases e:id=k'
  ·subst e;rw [aI] at hid';cases hid'
  rw [aH _ _ _ _ e] at hid';rw [jF _ _ _ _ _ _ e];exact h.dom id hid'
 ·intro id b hid hb;have hid':upd s.u k' true id=false:=hid;have e:id≠k':=by intro e;subst e;rw [aI] at hid';cases hid'
  rw [aH _ _ _ _ e] at hid';rcases hb with ⟨h1,_⟩|⟨rfl,_,h1,_⟩|⟨_,_,h1⟩
  ·exact e h1
  ·exact h.domn _ b hid' h1
  exact h.domn id b hid' h1
 ·intro id id' b h1 h2;rcases hat h1 with ⟨rfl,a1,a2⟩|⟨a1,a2,a3⟩<;>rcases hat h2 with ⟨c0,c1,c2⟩|⟨c1,c2,c3⟩
  ·exact c0.symm
  ·have:=h.inj _ _ b (.inr a1) c2;subst this;rcases c3 rfl with ⟨g,hg⟩|⟨d1,d2⟩
   ·exact absurd a1 (hroot b g hg)
   rcases a2 with a2|a2
   ·exact absurd a2 d2
   exact absurd a2 d1
  ·subst c0
   have:=h.inj _ _ b (.inr c1) a2;subst this;rcases a3 rfl with ⟨g,hg⟩|⟨d1,d2⟩
   ·exact absurd c1 (hroot b g hg)
   rcases c2 with c2|c2
   ·exact absurd c2 d2
   exact absurd c2 d1
  exact h.inj _ _ b a2 c2
 ·intro id b hb;rcases hat hb with ⟨_,a1,_⟩|⟨_,a2,_⟩
  ·exact h.fresh k b (.inr a1)
  exact h.fresh id b a2
 intro id e hx;have hx:upd (upd s.H k (some e1)) k' (some e2) id=some e:=hx;show upd s.u k' true id=true∧RE _ w (own K _ (upd (upd s.H k (some e1)) k' (some e2))) id e;by_cases hi:id=k'
 ·subst hi;rw [aI] at hx;cases hx;exact⟨aI _ _ _,he2 hown⟩
 rw [aH _ _ _ _ hi] at hx⊢;by_cases hi2:id=k
 ·subst hi2;rw [aI] at hx;cases hx;exact⟨hku,he1 hown⟩
 rw [aH _ _ _ _ hi2] at hx;obtain⟨h1,h2⟩:=h.heap id e hx;exact⟨h1,h2.mono (Ext.refl _ _) (fun b _=>hown b) hm (hβ0 id) (Shaped.refl _ _) (fun _ _=>rfl) (fun b=>⟨fun h=>by
  rcases h with ⟨h,_⟩|⟨h,_⟩|⟨_,_,h⟩
  ·exact absurd h hi
  ·exact absurd h hi2
  exact h,fun h=> .inr (.inr ⟨hi,hi2,h⟩)⟩)⟩
def oK(j:Nat):List (Nat×Nat×V)→Bool
 | []=>true
 |h::hs=> !(Nat.beq h.2.1 j)&&oK j hs
theorem rD{j:Nat}: ∀{hs:List (Nat×Nat×V)},oK j hs=true→ ∀i v,(i,j,v)∉hs
 | [],_,_,_,h=>by cases h
 |h::hs,hc,i,v,hm=>by
  simp only [oK,Bool.and_eq_true,Bool.not_eq_true'] at hc;rcases qE.1 hm with rfl|hm
  ·simp at hc
  exact rD hc.2 i v hm
theorem aEW{K:Ctx}{s:S}(k k' i j m2:Nat){Γ:List Nd}{m gen:Nat}{rows:List (List T)}{row:List T}{rows2:List (List T)}{hs:List (Nat×Nat×V)}(hk:s.H k=some (.tree Γ m gen rows hs))(hu:s.u k'=false)
  (hi:rows[i]? =some row) (hj:row[j]? =some (.sl rows2)) (hm:(ndOf Γ m).kid j=some m2) (hc: ∀v,(i,j,v)∉hs):
  s.le K {t:=s.t,H:=upd (upd s.H k (some (.tree Γ m gen rows ((i,j,.msl k' 1 (ndOf Γ m2).size 0 rows2.length)::hs)))) k' (some (.tree Γ m2 1 rows2 [])),u:=upd s.u k' true}:=by
 intro β a w h;have hku:=(h.heap k _ hk).1;have hne:k≠k':=by intro e;subst e;rw [hku] at hu;cases hu
 have hre:=(h.heap k _ hk).2;rcases hre.2 with ⟨a1,a2,_⟩|⟨b,us,B,a1,a2,a3,a4,a5,a6,a7,a8⟩
 ·rw [a2] at hi;simp at hi
 have hlt:=(cC.1 hi).1;have hjs:j<(ndOf Γ m).size:=by rw [←a4 row (dD hi)];exact(cC.1 hj).1
 have hidx:i*(ndOf Γ m).size+j<us.size:=by
  have:(i+1)*(ndOf Γ m).size≤rows.length*(ndOf Γ m).size:=jL _ hlt;rw [jJ] at this;omega
 have hcell:=(a5 i j row _ us[i*(ndOf Γ m).size+j] hi hj (vAI hidx)).2 fun v=>hc v;rw [hm] at hcell;have hroot: ∀c g,β k=some (some c,g)→ ¬β.n k c:=by
  intro c g hc hn;rw [a1] at hc;cases hc;obtain⟨i',j',hb⟩:=(a8 b).1 hn;exact(a6 i' j' b hb).2.2 rfl
 generalize hU:us[i*(ndOf Γ m).size+j]=U at hcell
 -- the cell's value under the new map, and the rest of the rows
 have rest: ∀(q:Option Nat) (N:Nat→Prop),(∀c,B i j c↔(q=some c∨N c))→(∀(X:Nat→Prop),RV (β.split k k' q N) w X (.msl k' 1 (ndOf Γ m2).size 0 rows2.length) U)→
   ∀X,(∀c,X c→own K β s.H c)→RE (β.split k k' q N) w X k (.tree Γ m gen rows ((i,j,.msl k' 1 (ndOf Γ m2).size 0 rows2.length)::hs)):=by
  intro q N hB hv X hX;have hm':MLe β (β.split k k' q N):=MLe.of (fun id x hx=>by
   have:id≠k':=by intro e;subst e;rw [h.dom _ hu] at hx;cases hx
   rw [jF _ _ _ _ _ _ this];exact hx)
  refine⟨hre.1,.inr ⟨b,us,fun i' j' c=>B i' j' c∧ ¬(i'=i∧j'=j),by rw [jF _ _ _ _ _ _ hne];exact a1,a2,a3,a4,fun i' j' row' x u b1 b2 b3=>⟨fun v hv'=>?_,fun hn=>?_⟩,
   fun i' j' c hc=>a6 i' j' c hc.1,fun i1 j1 i2 j2 c h1 h2=>a7 _ _ _ _ c h1.1 h2.1,fun c=>?_⟩⟩
  ·rcases qE.1 hv' with e|hv'
   ·simp only [Prod.mk.injEq] at e;obtain⟨rfl,rfl,rfl⟩:=e
    have:u=U:=by
     rw [←hU];rw [vAI hidx] at b3;exact(Option.some.inj b3).symm
    subst this;exact⟨hv X,fun c hc=>hc.2 ⟨rfl,rfl⟩⟩
   obtain⟨c1,c2⟩:=(a5 i' j' row' x u b1 b2 b3).1 v hv';exact⟨c1.mono (Ext.refl _ _) (fun c _=>hX c) hm' (Shaped.refl _ _),fun c hx=>c2 c hx.1⟩
  ·have hnij: ¬(i'=i∧j'=j):=by rintro⟨rfl,rfl⟩;exact hn _ uX
   exact(((a5 i' j' row' x u b1 b2 b3).2 fun v hv=>hn v (r9 _ hv)).mono (Ext.refl _ _) (fun c _=>hX c) fun _ _=>rfl).iff fun c=>⟨fun h=>h.1,fun h=>⟨h,hnij⟩⟩
  constructor
  ·rintro(⟨h1,_⟩|⟨_,_,h1,h2,h3⟩|⟨_,h1,_⟩)
   ·exact absurd h1 hne
   ·obtain⟨i',j',hb⟩:=(a8 c).1 h1;refine⟨i',j',hb,?_⟩;rintro⟨rfl,rfl⟩;rcases(hB c).1 hb with h4|h4
    ·exact h3 h4
    exact h2 h4
   exact absurd rfl h1
  rintro⟨i',j',hb,hn⟩;refine .inr (.inl ⟨rfl,hne,(a8 c).2 ⟨i',j',hb⟩,fun h4=>?_,fun h4=>?_⟩)
  ·exact hn (a7 _ _ _ _ c hb ((hB c).2 (.inr h4)))
  exact hn (a7 _ _ _ _ c hb ((hB c).2 (.inl h4)))
 generalize hN0:B i j=N0 at hcell rest;cases hcell with
 |nil _ _ hN=>
  refine⟨_,h.split k k' none (fun _=>False) _ (.tree Γ m2 1 [] []) (by rw [hk];simp) hu (fun b hb=>by cases hb) (fun _ h=>h.elim) hroot (fun hown=>rest none (fun _=>False) (fun c=>⟨fun h=>absurd h (hN c),fun h=>by rcases h with h|h;cases h;exact h.elim⟩)
   (fun X=> .msl0 k' 1 _ (kF _) (o7 _ _ _ _ _)) _ hown) fun hown=>⟨kF _,.inl ⟨o7 _ _ _ _ _,rfl,fun c hc=>?_⟩⟩⟩
  rcases hc with ⟨_,h⟩|⟨h,_⟩|⟨h,_⟩
  ·exact h
  ·exact hne h.symm
  exact h rfl
 |own _ _ b2 cap us2 B2 _ hw hs hmx hl hsz hr hB hd hN=>
  have hn2:β.n k b2:=(a8 b2).2 ⟨i,j,by rw [hN0];exact(hN b2).2 (.inl rfl)⟩;refine⟨_,h.split k k' (some b2) (fun c=> ∃i j,B2 i j c) _ (.tree Γ m2 1 rows2 []) (by rw [hk];simp) hu (fun b hb=>by cases hb;exact⟨hn2,fun⟨i',j',h'⟩=>(hB i' j' _ h').2.2 rfl⟩)
   (fun c hc=>(a8 c).2 ⟨i,j,by rw [hN0];exact(hN c).2 (.inr hc)⟩) hroot
   (fun hown=>rest (some b2) (fun c=> ∃i j,B2 i j c) (fun c=>⟨fun h=>by rcases(hN c).1 h with h|h;exact .inl (by rw [h]);exact .inr h,fun h=>(hN c).2 (by rcases h with h|h;cases h;exact .inl rfl;exact .inr h)⟩)
    (fun X=>?_) _ hown) fun hown=>⟨kF _,.inr ⟨b2,us2,B2,o7 _ _ _ _ _,hw,by rw [hs];exact jL _ hl,hsz,fun i' j' row' x u c1 c2 c3=>Cell.of ((hr i' j' row' x u c1 c2 c3).mono (Ext.refl _ _) (fun c _=>hown c) fun _ _=>rfl),hB,hd,fun c=>?_⟩⟩⟩
  ·have:=RV.msl (β:=β.split k k' (some b2) fun c=> ∃i j,B2 i j c) (w:=w) (X:=X) k' 1 (ndOf Γ m2).size 0 rows2.length cap b2 us2.size (ndOf Γ m2).ty (kF _) (o7 _ _ _ _ _) (vAx.1 hw).1 (by unfold World.shape?;rw [hw]) (by rw [l4];exact hs.symm) hl hmx;rw [F7] at this;exact this
  constructor
  ·rintro(⟨_,h⟩|⟨h,_⟩|⟨h,_⟩)
   ·exact h
   ·exact absurd h.symm hne
   exact absurd rfl h
  intro h;exact .inl ⟨rfl,h⟩
def Map.merge(β:Map)(k k' gen:Nat):Map:=
 ⟨fun i=>bif Nat.beq i k' then some (none,gen+1) else β i,fun id b=>(id=k∧(β.n k b∨At β k' b))∨(id≠k∧id≠k'∧β.n id b)⟩
theorem Z2(β:Map)(k k' gen:Nat):β.merge k k' gen k'=some (none,gen+1):=by simp [Map.merge]
theorem jI(β:Map)(k k' gen id:Nat)(h:id≠k'):β.merge k k' gen id=β id:=by simp [Map.merge,aFh h]
theorem aHH{β:Map}{k k' gen id b:Nat}(hne:k≠k')(h:At (β.merge k k' gen) id b):id≠k'∧(At β id b∨(id=k∧At β k' b)):=by
 rcases h with ⟨g,h⟩|⟨rfl,h⟩|⟨h1,h2,h3⟩
 ·by_cases hi:id=k'
  ·subst hi;rw [Z2] at h;cases h
  rw [jI _ _ _ _ _ hi] at h;exact⟨hi,.inl (.inl ⟨g,h⟩)⟩
 ·rcases h with h|h
  ·exact⟨hne,.inl (.inr h)⟩
  exact⟨hne,.inr ⟨rfl,h⟩⟩
 exact⟨h2,.inl (.inr h3)⟩
theorem Rel.merge{K:Ctx}{β:Map}{s:S}{a:Act}{w:World}(h:Rel K β s a w)(k k' gen:Nat)(q:Option Nat)(e1:E)(hk:s.H k≠none)(hk':s.H k'≠none)(hne:k≠k')(hn0:K.n0≤k')(hq:β k'=some (q,gen))(hg:1≤gen)
  (he1:(∀b,own K (β.merge k k' gen) (upd (upd s.H k' none) k (some e1)) b→own K β s.H b)→MLe β (β.merge k k' gen)→RE (β.merge k k' gen) w (own K (β.merge k k' gen) (upd (upd s.H k' none) k (some e1))) k e1):
  Rel K (β.merge k k' gen) {t:=s.t,H:=upd (upd s.H k' none) k (some e1),u:=s.u} a w:=by
 have hku:s.u k'=true:=by
  cases hh:s.H k' with
  |none=>exact absurd hh hk'
  |some e0=>exact(h.heap k' e0 hh).1
 have hku0:s.u k=true:=by
  cases hh:s.H k with
  |none=>exact absurd hh hk
  |some e0=>exact(h.heap k e0 hh).1
 have hat:=fun {id b}=> @aHH β k k' gen id b hne;have hown: ∀b,own K (β.merge k k' gen) (upd (upd s.H k' none) k (some e1)) b→own K β s.H b:=by
  rintro b (hx|⟨id,h1,h2⟩)
  ·exact .inl hx
  obtain⟨h3,h4|⟨rfl,h4⟩⟩:=hat h2
  ·refine .inr ⟨id,fun e0=>?_,h4⟩;by_cases hi:id=k
   ·subst hi;exact hk e0
   rw [aH _ _ _ _ hi,aH _ _ _ _ h3] at h1;exact h1 e0
  exact .inr ⟨k',hk',h4⟩
 have hm:MLe β (β.merge k k' gen):=by
  intro id q1 g1 hx;by_cases hi:id=k'
  ·subst hi;rw [hq] at hx;cases hx;exact .inr ⟨hg,none,gen+1,Z2 _ _ _ _,vAV _⟩
  exact .inl (by rw [jI _ _ _ _ _ hi];exact hx)
 refine {h with base:= ?_,dom:= ?_,domn:= ?_,inj:= ?_,fresh:= ?_,heap:= ?_,slots:=fun i=>(h.slots i).mono (Ext.refl _ _) (fun b _=>hown b) hm (Shaped.refl _ _)}
 ·exact h.base.keep fun id hid=>jI _ _ _ _ _ (by omega)
 ·intro id hid;have hid':s.u id=false:=hid;rw [jI _ _ _ _ _ (by intro e;subst e;rw [hku] at hid';cases hid')];exact h.dom id hid'
 ·intro id b hid hb;have hid':s.u id=false:=hid;rcases hb with ⟨rfl,_⟩|⟨_,_,h3⟩
  ·rw [hku0] at hid';cases hid'
  exact h.domn id b hid' h3
 ·intro id id' b h1 h2;obtain⟨a1,a2|⟨rfl,a2⟩⟩:=hat h1<;>obtain⟨c1,c2|⟨rfl,c2⟩⟩:=hat h2
  ·exact h.inj _ _ b a2 c2
  ·exact absurd (h.inj _ _ b a2 c2) a1
  ·exact absurd (h.inj _ _ b c2 a2) c1
  rfl
 ·intro id b hb;obtain⟨_,h4|⟨_,h4⟩⟩:=hat hb
  ·exact h.fresh id b h4
  exact h.fresh k' b h4
 intro id e hx;have hx:upd (upd s.H k' none) k (some e1) id=some e:=hx;show s.u id=true∧RE _ w (own K _ (upd (upd s.H k' none) k (some e1))) id e;by_cases hi:id=k
 ·subst hi;rw [aI] at hx;cases hx;exact⟨hku0,he1 hown hm⟩
 rw [aH _ _ _ _ hi] at hx;by_cases hi2:id=k'
 ·subst hi2;rw [aI] at hx;cases hx
 rw [aH _ _ _ _ hi2] at hx;obtain⟨h1,h2⟩:=h.heap id e hx;exact⟨h1,h2.mono (Ext.refl _ _) (fun b _=>hown b) hm (fun x hx=>by rw [jI _ _ _ _ _ hi2];exact hx) (Shaped.refl _ _) (fun _ _=>rfl) (fun b=>⟨fun h=>by
  rcases h with ⟨h,_⟩|⟨_,_,h⟩
  ·exact absurd h hi
  exact h,fun h=> .inr ⟨hi,hi2,h⟩⟩)⟩
theorem aBx{K:Ctx}{s:S}(k k' i j m2 g' z n:Nat){Γ:List Nd}{m gen:Nat}{rows:List (List T)}{row:List T}{rows2:List (List T)}{hs:List (Nat×Nat×V)}(hk:s.H k=some (.tree Γ m gen rows ((i,j,.msl k' g' z 0 n)::hs)))
  (hk':s.H k'=some (.tree Γ m2 g' rows2 [])) (hz:z=(ndOf Γ m2).size) (hn:n=rows2.length) (hne:k≠k') (hn0:Nat.ble K.n0 k'=true) (hi:rows[i]? =some row) (hm:(ndOf Γ m).kid j=some m2) (hjz:Nat.blt j (ndOf Γ m).size=true) (hc: ∀v,(i,j,v)∉hs):
  s.le K {t:=s.t,H:=upd (upd s.H k' none) k (some (.tree Γ m gen (rows.set i (row.set j (.sl rows2))) hs)),u:=s.u}:=by
 subst hz;subst hn;intro β a w h;have hn0:=rZ hn0;obtain⟨q,hq⟩:=w3 (h.heap k' _ hk').2;have hre:=(h.heap k _ hk).2;have hre2:=(h.heap k' _ hk').2;refine⟨_,h.merge k k' g' q (.tree Γ m gen (rows.set i (row.set j (.sl rows2))) hs) (by rw [hk];simp) (by rw [hk'];simp) hne hn0 hq hre2.1 fun hown hm'=>⟨hre.1,?_⟩⟩;rcases hre.2 with ⟨a1,a2,_⟩|⟨b,us,B,a1,a2,a3,a4,a5,a6,a7,a8⟩
 ·rw [a2] at hi;simp at hi
 have hlt:=(cC.1 hi).1
 -- the blocks of the slice
 have hrootb:At β k b:= .inl ⟨_,a1⟩;have hkey: ∀(u:Value),RV β w (own K β s.H) (.msl k' g' (ndOf Γ m2).size 0 rows2.length) u→
   RO Γ w (own K (β.merge k k' g') (upd (upd s.H k' none) k (some (.tree Γ m gen (rows.set i (row.set j (.sl rows2))) hs)))) (some m2) (.sl rows2) u (fun c=>At β k' c):=by
  intro u hu;rcases bP hu hq with ⟨cap,b2,n2,ty',rfl,hb0,hw,hsh,hnn,hl,hmx⟩|⟨hb0,_,h0,rfl⟩
  ·subst hb0;rcases hre2.2 with ⟨c1,_⟩|⟨b3,us2,B2,c1,c2,c3,c4,c5,c6,c7,c8⟩
   ·rw [hq] at c1;cases c1
   rw [hq] at c1;cases c1;rw [F7];have hus:us2.size=cap*(ndOf Γ m2).size:=by
    unfold World.shape? at hsh;rw [c2] at hsh;simp at hsh;rw [hsh.2,←hnn,l4]
   refine .own m2 rows2 b2 cap us2 B2 _ c2 hus hmx hl c4 (fun i' j' row' x u d1 d2 d3=>(c5 i' j' row' x u d1 d2 d3).none.mono (Ext.refl _ _) (fun c _=>hown c) fun _ _=>rfl) c6 c7 fun c=>⟨?_,?_⟩
   ·rintro(⟨g,hg⟩|hg)
    ·rw [hq] at hg;cases hg;exact .inl rfl
    exact .inr ((c8 c).1 hg)
   rintro(rfl|hg)
   ·exact .inl ⟨_,hq⟩
   exact .inr ((c8 c).2 hg)
  subst hb0
  have:rows2=[]:=vAv h0;subst this;refine .nil m2 _ fun c hc=>?_;rcases hc with ⟨g,hg⟩|hg
  ·rw [hq] at hg;cases hg
  rcases hre2.2 with ⟨_,_,c3⟩|⟨b3,us2,B2,c1,_⟩
  ·exact c3 c hg
  rw [hq] at c1;cases c1
 have hsep: ∀c,At β k' c→ ¬At β k c:=fun c h1 h2=>hne (h.inj _ _ c h2 h1);have hBk: ∀i' j' c,B i' j' c→At β k c:=fun i' j' c hc=> .inr ((a8 c).2 ⟨i',j',hc⟩);have hjs: ∀(x:T),row[j]? =some x→j<(ndOf Γ m).size:=fun x hx=>by rw [←a4 row (dD hi)];exact(cC.1 hx).1
 have hrl:row.length=(ndOf Γ m).size:=a4 row (dD hi);by_cases hjlt:j<row.length
 ·have hidx:i*(ndOf Γ m).size+j<us.size:=by
   have:(i+1)*(ndOf Γ m).size≤rows.length*(ndOf Γ m).size:=jL _ hlt;rw [jJ] at this;omega
  have hcell:=a5 i j row row[j] us[i*(ndOf Γ m).size+j] hi (dH hjlt) (vAI hidx);obtain⟨hv0,hB0⟩:=hcell.1 _ uX;refine .inr ⟨b,us,fun i' j' c=>B i' j' c∨(i'=i∧j'=j∧At β k' c),by rw [jI _ _ _ _ _ hne];exact a1,a2,by simpa using a3,?_,?_,?_,?_,?_⟩
  ·intro r hr;rcases vBb hr with hr|rfl
   ·exact a4 r hr
   simpa using hrl
  ·intro i' j' row' x u b1 b2 b3;by_cases hij:i'=i∧j'=j
   ·obtain⟨rfl,rfl⟩:=hij;rw [vAu hlt] at b1;cases b1;rw [vAu hjlt] at b2;cases b2;rw [vAI hidx] at b3;cases b3;refine⟨fun v hv=>absurd hv (hc v),fun _=>?_⟩;rw [hm];refine(hkey _ hv0).iff fun c=>⟨fun h=>?_,fun h=> .inr ⟨rfl,rfl,h⟩⟩
    rcases h with h|⟨_,_,h⟩
    ·exact absurd h (hB0 c)
    exact h
   have hold: ∃row0 x0,rows[i']? =some row0∧row0[j']? =some x0∧x0=x:=by
    by_cases hii:i'=i
    ·subst hii;rw [vAu hlt] at b1;cases b1;rw [vAK (by intro e;exact hij ⟨rfl,e.symm⟩)] at b2;exact⟨row,x,hi,b2,rfl⟩
    rw [vAK (vBK hii)] at b1;exact⟨row',x,b1,b2,rfl⟩
   obtain⟨row0,x0,d1,d2,rfl⟩:=hold;have hc0:=a5 i' j' row0 x0 u d1 d2 b3;have hiff: ∀c,(B i' j' c∨(i'=i∧j'=j∧At β k' c))↔B i' j' c:=fun c=>⟨fun h=>by
    rcases h with h|⟨h1,h2,_⟩
    ·exact h
    exact absurd ⟨h1,h2⟩ hij,.inl⟩
   refine⟨fun v hv=>?_,fun hn=>?_⟩
   ·obtain⟨h1,h2⟩:=hc0.1 v (r9 _ hv);exact⟨h1.mono (Ext.refl _ _) (fun c _=>hown c) hm' (Shaped.refl _ _),fun c hx=>h2 c ((hiff c).1 hx)⟩
   refine((hc0.2 fun v hv=>?_).mono (Ext.refl _ _) (fun c _=>hown c) fun _ _=>rfl).iff hiff;rcases qE.1 hv with e|hv
   ·cases e;exact hij ⟨rfl,rfl⟩
   exact hn v hv
  ·intro i' j' c hb;rcases hb with hb|⟨rfl,rfl,hb⟩
   ·simpa using a6 i' j' c hb
   refine⟨by simpa using hlt,by omega,fun e=>?_⟩;subst e;exact hsep c hb hrootb
  ·intro i1 j1 i2 j2 c h1 h2;rcases h1 with h1|⟨rfl,rfl,h1⟩<;>rcases h2 with h2|⟨rfl,rfl,h2⟩
   ·exact a7 _ _ _ _ c h1 h2
   ·exact absurd (hBk _ _ c h1) (hsep c h2)
   ·exact absurd (hBk _ _ c h2) (hsep c h1)
   exact⟨rfl,rfl⟩
  intro c;constructor
  ·rintro(⟨_,h1|h1⟩|⟨h1,_⟩)
   ·obtain⟨i',j',hb⟩:=(a8 c).1 h1;exact⟨i',j',.inl hb⟩
   ·exact⟨i,j,.inr ⟨rfl,rfl,h1⟩⟩
   exact absurd rfl h1
  rintro⟨i',j',hb|⟨_,_,hb⟩⟩
  ·exact .inl ⟨rfl,.inl ((a8 c).2 ⟨i',j',hb⟩)⟩
  exact .inl ⟨rfl,.inr hb⟩
 exact absurd (by rw [hrl];simpa [Nat.blt_eq] using hjz) hjlt
theorem Rel.retell{K:Ctx}{β:Map}{s:S}{a:Act}{w:World}(h:Rel K β s a w)(k:Nat)(e e':E)(hk:s.H k=some e)(he:RE β w (own K β s.H) k e→RE β w (own K β s.H) k e'):
  Rel K β {s with H:=upd s.H k (some e')} a w:=by
 have hown: ∀b,own K β (upd s.H k (some e')) b→own K β s.H b:=by
  rintro b (hx|⟨id,h1,h2⟩)
  ·exact .inl hx
  refine .inr ⟨id,fun e0=>?_,h2⟩;by_cases hi:id=k
  ·subst hi;rw [hk] at e0;cases e0
  rw [aH _ _ _ _ hi] at h1;exact h1 e0
 refine {h with heap:= ?_,slots:=fun i=>(h.slots i).mono (Ext.refl _ _) (fun b _=>hown b) (MLe.refl _) (Shaped.refl _ _)};intro id x hx;have hx:upd s.H k (some e') id=some x:=hx;by_cases hi:id=k
 ·subst hi;rw [aI] at hx;cases hx;obtain⟨h1,h2⟩:=h.heap id e hk;exact⟨h1,(he h2).mono (Ext.refl _ _) (fun b _=>hown b) (MLe.refl _) (fun _ h=>h) (Shaped.refl _ _) fun _ _=>rfl⟩
 rw [aH _ _ _ _ hi] at hx;obtain⟨h1,h2⟩:=h.heap id x hx;exact⟨h1,h2.mono (Ext.refl _ _) (fun b _=>hown b) (MLe.refl _) (fun _ h=>h) (Shaped.refl _ _) fun _ _=>rfl⟩
theorem aGx{K:Ctx}{s:S}(k i j:Nat){Γ:List Nd}{m gen:Nat}{rows:List (List T)}{row:List T}{x:T}{hs:List (Nat×Nat×V)}(hk:s.H k=some (.tree Γ m gen rows hs))(hi:rows[i]? =some row)(hj:row[j]? =some x)(hm:(ndOf Γ m).kid j=none)(hc:oK j hs=true):
  s.le K {s with H:=upd s.H k (some (.tree Γ m gen rows ((i,j,.t x)::hs)))}:=by
 intro β a w h;refine⟨β,h.retell k _ (.tree Γ m gen rows ((i,j,.t x)::hs)) hk fun hre=>?_⟩;refine⟨hre.1,?_⟩;rcases hre.2 with ⟨a1,a2,_⟩|⟨b,us,B,a1,a2,a3,a4,a5,a6,a7,a8⟩
 ·rw [a2] at hi;simp at hi
 refine .inr ⟨b,us,B,a1,a2,a3,a4,fun i' j' row' x' u b1 b2 b3=>?_,a6,a7,a8⟩;have hc0:=a5 i' j' row' x' u b1 b2 b3;refine⟨fun v hv=>?_,fun hn=>hc0.2 fun v hv=>hn v (r9 _ hv)⟩;rcases qE.1 hv with e|hv
 ·simp only [Prod.mk.injEq] at e;obtain⟨rfl,rfl,rfl⟩:=e;rw [hi] at b1;cases b1;rw [hj] at b2;cases b2
  have:=hc0.2 fun v=>rD hc _ _;rw [hm] at this;cases this with|frz _ _ _ h hN=>exact⟨.t _ _ h,hN⟩
 exact hc0.1 v hv
theorem aDa{K:Ctx}{s:S}(k i j:Nat){Γ:List Nd}{m gen:Nat}{rows:List (List T)}{row:List T}{x:T}{hs:List (Nat×Nat×V)}(hk:s.H k=some (.tree Γ m gen rows ((i,j,.t x)::hs)))(hi:rows[i]? =some row)(hjz:Nat.blt j (ndOf Γ m).size=true)(hm:(ndOf Γ m).kid j=none)(hc:oK j hs=true):
  s.le K {s with H:=upd s.H k (some (.tree Γ m gen (rows.set i (row.set j x)) hs))}:=by
 intro β a w h;refine⟨β,h.retell k _ (.tree Γ m gen (rows.set i (row.set j x)) hs) hk fun hre=>?_⟩;refine⟨hre.1,?_⟩;rcases hre.2 with ⟨a1,a2,_⟩|⟨b,us,B,a1,a2,a3,a4,a5,a6,a7,a8⟩
 ·rw [a2] at hi;simp at hi
 have hlt:=(cC.1 hi).1;have hrl:row.length=(ndOf Γ m).size:=a4 row (dD hi);have hjlt:j<row.length:=by rw [hrl];simpa [Nat.blt_eq] using hjz
 refine .inr ⟨b,us,B,a1,a2,by simpa using a3,fun r hr=>?_,fun i' j' row' x' u b1 b2 b3=>?_,fun i' j' c hb=>by simpa using a6 i' j' c hb,a7,a8⟩
 ·rcases vBb hr with hr|rfl
  ·exact a4 r hr
  simpa using hrl
 by_cases hij:i'=i∧j'=j
 ·obtain⟨rfl,rfl⟩:=hij;rw [vAu hlt] at b1;cases b1;rw [vAu hjlt] at b2;cases b2;have hc0:=(a5 i' j' row row[j'] u hi (dH hjlt) b3).1 _ uX;refine⟨fun v hv=>absurd hv (rD hc _ _),fun _=>?_⟩;rw [hm];obtain⟨h1,h2⟩:=hc0;cases h1 with|t _ _ h1=>exact .frz _ _ _ h1 h2
 have hold: ∃row0 x0,rows[i']? =some row0∧row0[j']? =some x0∧x0=x':=by
  by_cases hii:i'=i
  ·subst hii;rw [vAu hlt] at b1;cases b1;rw [vAK (by intro e;exact hij ⟨rfl,e.symm⟩)] at b2;exact⟨row,x',hi,b2,rfl⟩
  rw [vAK (vBK hii)] at b1;exact⟨row',x',b1,b2,rfl⟩
 obtain⟨row0,x0,d1,d2,rfl⟩:=hold;have hc0:=a5 i' j' row0 x0 u d1 d2 b3;refine⟨fun v hv=>hc0.1 v (r9 _ hv),fun hn=>hc0.2 fun v hv=>?_⟩;rcases qE.1 hv with e|hv
 ·cases e;exact hij ⟨rfl,rfl⟩
 exact hn v hv
theorem aET{K:Ctx}{s:S}(k i j m2:Nat){Γ:List Nd}{m gen:Nat}{rows:List (List T)}{row:List T}{hs:List (Nat×Nat×V)}(hk:s.H k=some (.tree Γ m gen rows ((i,j,.t .nilS)::hs)))(hi:rows[i]? =some row)(hjz:Nat.blt j (ndOf Γ m).size=true)(hm:(ndOf Γ m).kid j=some m2)(hc:oK j hs=true):
  s.le K {s with H:=upd s.H k (some (.tree Γ m gen (rows.set i (row.set j (.sl []))) hs))}:=by
 intro β a w h;refine⟨β,h.retell k _ (.tree Γ m gen (rows.set i (row.set j (.sl []))) hs) hk fun hre=>?_⟩;refine⟨hre.1,?_⟩;rcases hre.2 with ⟨a1,a2,_⟩|⟨b,us,B,a1,a2,a3,a4,a5,a6,a7,a8⟩
 ·rw [a2] at hi;simp at hi
 have hlt:=(cC.1 hi).1;have hrl:row.length=(ndOf Γ m).size:=a4 row (dD hi);have hjlt:j<row.length:=by rw [hrl];simpa [Nat.blt_eq] using hjz
 refine .inr ⟨b,us,B,a1,a2,by simpa using a3,fun r hr=>?_,fun i' j' row' x' u b1 b2 b3=>?_,fun i' j' c hb=>by simpa using a6 i' j' c hb,a7,a8⟩
 ·rcases vBb hr with hr|rfl
  ·exact a4 r hr
  simpa using hrl
 by_cases hij:i'=i∧j'=j
 ·obtain⟨rfl,rfl⟩:=hij;rw [vAu hlt] at b1;cases b1;rw [vAu hjlt] at b2;cases b2;have hc0:=(a5 i' j' row row[j'] u hi (dH hjlt) b3).1 _ uX;refine⟨fun v hv=>absurd hv (rD hc _ _),fun _=>?_⟩;rw [hm];obtain⟨h1,h2⟩:=hc0;cases h1 with|t _ _ h1=>cases h1 with|nilS=>exact .nil _ _ h2
 have hold: ∃row0 x0,rows[i']? =some row0∧row0[j']? =some x0∧x0=x':=by
  by_cases hii:i'=i
  ·subst hii;rw [vAu hlt] at b1;cases b1;rw [vAK (by intro e;exact hij ⟨rfl,e.symm⟩)] at b2;exact⟨row,x',hi,b2,rfl⟩
  rw [vAK (vBK hii)] at b1;exact⟨row',x',b1,b2,rfl⟩
 obtain⟨row0,x0,d1,d2,rfl⟩:=hold;have hc0:=a5 i' j' row0 x0 u d1 d2 b3;refine⟨fun v hv=>hc0.1 v (r9 _ hv),fun hn=>hc0.2 fun v hv=>?_⟩;rcases qE.1 hv with e|hv
 ·cases e;exact hij ⟨rfl,rfl⟩
 exact hn v hv
theorem aGw{K:Ctx}{s:S}(k:Nat){Γ:List Nd}{m gen:Nat}{rows:List (List T)}{hs:List (Nat×Nat×V)}(Γ':List Nd)(m':Nat)(hk:s.H k=some (.tree Γ m gen rows hs))(hn:Nat.ble K.n0 k=true)
  (h1:(ndOf Γ' m').ty=(ndOf Γ m).ty) (h2:(ndOf Γ' m').size=(ndOf Γ m).size) (h3:(ndOf Γ' m').kids=[]):
  s.le K {s with H:=upd s.H k (some (.tree Γ' m' gen rows hs))}:=by
 have hn0:=rZ hn;have hkid: ∀j,(ndOf Γ' m').kid j=none:=fun j=>by unfold Nd.kid;rw [h3];rfl
 intro β a w h;have hre:=(h.heap k _ hk).2;have hmle:MLe β (β.drop k):=fun _ _ _ hx=> .inl hx;rcases hre.2 with ⟨a1,a2,a3⟩|⟨b,us,B,a1,a2,a3,a4,a5,a6,a7,a8⟩
 ·exact⟨_,h.drop k (.tree Γ' m' gen rows hs) (by rw [hk];simp) ⟨hre.1,.inl ⟨a1,a2,fun c hc=>hc.1 rfl⟩⟩⟩
 refine⟨_,h.drop k (.tree Γ' m' gen rows hs) (by rw [hk];simp) ⟨hre.1,.inr ⟨b,us,fun _ _ _=>False,a1,by rw [h1];exact a2,by rw [h2];exact a3,by rw [h2];exact a4,?_,fun _ _ _ hc=>hc.elim,fun _ _ _ _ _ hc=>hc.elim,fun c=>⟨fun hc=>(hc.1 rfl).elim,fun⟨_,_,hc⟩=>hc.elim⟩⟩⟩⟩;intro i j row x u b1 b2 b3;rw [h2] at b3;have h5:=a5 i j row x u b1 b2 b3;generalize hX:own K (β.drop k) (upd s.H k (some (.tree Γ' m' gen rows hs)))=X';have hown: ∀b,X' b→own K β s.H b:=by
  subst hX;rintro b (hx|⟨id,g1,g2⟩)
  ·exact .inl hx
  refine .inr ⟨id,fun e0=>?_,lM g2⟩;by_cases hi:id=k
  ·subst hi;rw [hk] at e0;cases e0
  rw [aH _ _ _ _ hi] at g1;exact g1 e0
 refine⟨fun v hv=>⟨(h5.1 v hv).1.mono (Ext.refl _ _) (fun b _=>hown b) hmle (Shaped.refl _ _),fun _ hc=>hc⟩,fun hno=>?_⟩;rw [hkid];refine .frz _ _ _ ((h5.2 hno).shed hown ?_) fun _ hc=>hc;intro c hc hx;subst hX;have hn:At β k c:= .inr ((a8 c).2 ⟨i,j,hc⟩);rcases hx with hx|⟨id,g1,g2⟩
 ·obtain⟨x1,x2⟩:=h.xold c hx;rcases(h.fresh k c hn).1 with hlt|hge
  ·exact x2 hlt
  omega
 have:=h.inj _ _ _ (lM g2) hn;subst this;rcases g2 with ⟨g,g2⟩|g2
 ·have g3:β id=some (some c,g):=g2;rw [a1] at g3;cases g3;exact(a6 i j _ hc).2.2 rfl
 exact g2.1 rfl
def E.gen:E→Option Nat
 | .cells _=>none
 | .arr _ g _ _=>some g
 | .tree _ _ g _ _=>some g
theorem q9{β:Map}{w:World}{X:Nat→Prop}{id g:Nat}{e:E}(h:RE β w X id e)(hg:e.gen=some g):1≤g∧ ∃q,β id=some (q,g):=by
 cases e with
 |cells cs=>cases hg
 |arr ty g' size rows=>
  cases hg;exact⟨h.1,by rcases h.2 with ⟨h1,_⟩|⟨b,us,h1,_⟩<;>exact⟨_,h1⟩⟩
 |tree Γ m g' rows hs=>
  cases hg;exact⟨h.1,w3 h⟩
theorem Rel.moveG{K:Ctx}{β:Map}{s:S}{a:Act}{w:World}(h:Rel K β s a w)(k:Nat)(e e':E)(g:Nat)(hk:s.H k=some e)(hg:e.gen=some g)(us:Array Value)(ty:TypeId)
  (he: ∀(β':Map) (X':Nat→Prop) (w':World),w'=w.alloc (.cells us ty)→β' k=some (some w.heap.size,g+1)→(∀b,β'.n k b↔β.n k b)→(∀v u,RV β w (own K β s.H) v u→RV β' w' X' v u)→
   (∀x u,RT w (own K β s.H) x u→RT w' X' x u)→(∀Γ m x u N,(∀b,N b→β.n k b)→RO Γ w (own K β s.H) m x u N→RO Γ w' X' m x u N)→RE β' w' X' k e'):
  Rel K (β.put k (some (some w.heap.size,g+1))) {s with H:=upd s.H k (some e')} a (w.alloc (.cells us ty)):=by
 have hext: ∀X,Ext X w (w.alloc (.cells us ty)):=fun X=>Ext.alloc X w _;have hku:s.u k=true:=(h.heap k _ hk).1;obtain⟨hg1,q0,hq0⟩:=q9 (h.heap k _ hk).2 hg;have hinv: ∀id b,At (β.put k (some (some w.heap.size,g+1))) id b→(id=k∧b=w.heap.size)∨At β id b:=fun id b hb=>by
  rcases hb with ⟨g,hb⟩|hb
  ·by_cases hi:id=k
   ·subst hi;rw [cW] at hb;cases hb;exact .inl ⟨rfl,rfl⟩
   rw [aV _ _ _ _ hi] at hb;exact .inr (.inl ⟨g,hb⟩)
  exact .inr (.inr hb)
 have hown: ∀b,b<w.heap.size→own K (β.put k (some (some w.heap.size,g+1))) (upd s.H k (some e')) b→own K β s.H b:=by
  rintro b hlt (hx|⟨id,h1,h2⟩)
  ·exact .inl hx
  rcases hinv id b h2 with ⟨rfl,rfl⟩|h3
  ·omega
  refine .inr ⟨id,fun e0=>?_,h3⟩;by_cases hi:id=k
  ·subst hi;rw [hk] at e0;cases e0
  rw [aH _ _ _ _ hi] at h1;exact h1 e0
 have hsh:Shaped β w (w.alloc (.cells us ty)):=dA (hext _);have hβ:=H0 q0 (some w.heap.size) hg1 hq0;have hrv: ∀v u,RV β w (own K β s.H) v u→RV (β.put k (some (some w.heap.size,g+1))) (w.alloc (.cells us ty)) (own K (β.put k (some (some w.heap.size,g+1))) (upd s.H k (some e'))) v u:=
  fun v u hv=>hv.mono (hext _) hown hβ hsh
 refine {ext:=h.ext.trans ((hext fun _=>False).weaken fun _ _ h=>h.elim),gok:=h.gok,mg:=h.mg,xold:=h.xold,inj0:=h.inj0,base:= ?_,shp:=h.shp.ext h.ext.size (hext _),low:=h.low,dom:= ?_,domn:=fun id b hid=>h.domn id b hid,inj:= ?_,fresh:= ?_,heap:= ?_,slots:=fun i=>hrv _ _ (h.slots i),nt:=h.nt,defers:=h.defers}
 ·exact h.base.grow k g q0 (some w.heap.size) hq0 hg1 (cW _ _ _) (fun b hb=>by cases hb;exact .inr h.ext.size) fun id hi=>aV _ _ _ _ hi
 ·intro id hid;have hid':s.u id=false:=hid;by_cases e:id=k
  ·subst e;rw [hku] at hid';cases hid'
  rw [aV _ _ _ _ e];exact h.dom id hid'
 ·intro id id' b h1 h2;rcases hinv id b h1 with ⟨rfl,rfl⟩|h3<;>rcases hinv id' _ h2 with ⟨rfl,e⟩|h4
  ·rfl
  ·have:=(h.fresh _ _ h4).2;omega
  ·subst e;have:=(h.fresh _ _ h3).2;omega
  exact h.inj _ _ _ h3 h4
 ·intro id b hb;rcases hinv id b hb with ⟨rfl,rfl⟩|h3
  ·exact⟨.inr h.ext.size,by simp⟩
  exact⟨(h.fresh _ _ h3).1,by have:=(h.fresh _ _ h3).2;simp;omega⟩
 intro id e2 he';have he':upd s.H k (some e') id=some e2:=he';show s.u id=true∧RE _ _ (own K _ (upd s.H k (some e'))) id e2;by_cases hi:id=k
 ·subst hi;rw [aI] at he';cases he';exact⟨hku,he _ _ _ rfl (cW _ _ _) (fun _=>Iff.rfl) hrv (fun x u hx=>hx.mono (hext _) hown) fun Γ m x u N hN hr=>hr.mono (hext _) hown fun b hb=>nM _ _ _ (h.fresh id b (.inr (hN b hb))).2⟩
 rw [aH _ _ _ _ hi] at he';obtain⟨h1,h2⟩:=h.heap id e2 he';refine⟨h1,h2.mono (hext _) hown hβ (fun x hx=>by rw [aV _ _ _ _ hi];exact hx) hsh fun b hb=>nM _ _ _ (h.fresh id b hb).2⟩
theorem Rel.bumpG{K:Ctx}{β:Map}{s:S}{a:Act}{w:World}(h:Rel K β s a w)(k:Nat)(e e':E)(g:Nat)(q:Option Nat)(hq:β k=some (q,g))(hg1:1≤g)(hk:s.H k=some e)
  (he: ∀(β':Map) (X':Nat→Prop),β' k=some (q,g+1)→(∀b,β'.n k b↔β.n k b)→(∀v u,RV β w (own K β s.H) v u→RV β' w X' v u)→(∀b,X' b→own K β s.H b)→RE β' w X' k e'):
  Rel K (β.put k (some (q,g+1))) {s with H:=upd s.H k (some e')} a w:=by
 have hku:s.u k=true:=(h.heap k _ hk).1;have hinv: ∀id b,At (β.put k (some (q,g+1))) id b→At β id b:=fun id b hb=>by
  rcases hb with ⟨g,hb⟩|hb
  ·by_cases hi:id=k
   ·subst hi;rw [cW] at hb;cases hb;exact .inl ⟨_,hq⟩
   rw [aV _ _ _ _ hi] at hb;exact .inl ⟨g,hb⟩
  exact .inr hb
 have hown: ∀b,own K (β.put k (some (q,g+1))) (upd s.H k (some e')) b→own K β s.H b:=by
  rintro b (hx|⟨id,h1,h2⟩)
  ·exact .inl hx
  refine .inr ⟨id,fun e0=>?_,hinv id b h2⟩;by_cases hi:id=k
  ·subst hi;rw [hk] at e0;cases e0
  rw [aH _ _ _ _ hi] at h1;exact h1 e0
 have hβ:=H0 q q hg1 hq;have hrv: ∀v u,RV β w (own K β s.H) v u→RV (β.put k (some (q,g+1))) w (own K (β.put k (some (q,g+1))) (upd s.H k (some e'))) v u:=fun v u hv=>hv.mono (Ext.refl _ _) (fun b _=>hown b) hβ (Shaped.refl _ _);refine {h with base:= ?_,dom:= ?_,inj:= ?_,fresh:=fun id b hb=>h.fresh id b (hinv id b hb),heap:= ?_,slots:=fun i=>hrv _ _ (h.slots i)}
 ·exact h.base.grow k g q q hq hg1 (aI _ _ _) (fun b hb=> .inl hb) fun id hi=>aV _ _ _ _ hi
 ·intro id hid;have hid':s.u id=false:=hid;by_cases e:id=k
  ·subst e;rw [hku] at hid';cases hid'
  rw [aV _ _ _ _ e];exact h.dom id hid'
 ·intro id id' b h1 h2;exact h.inj id id' b (hinv id b h1) (hinv id' b h2)
 intro id e2 he';have he':upd s.H k (some e') id=some e2:=he';show s.u id=true∧RE _ _ (own K _ (upd s.H k (some e'))) id e2;by_cases hi:id=k
 ·subst hi;rw [aI] at he';cases he';exact⟨hku,he _ _ (cW _ _ _) (fun _=>Iff.rfl) hrv hown⟩
 rw [aH _ _ _ _ hi] at he';obtain⟨h1,h2⟩:=h.heap id e2 he';exact⟨h1,h2.mono (Ext.refl _ _) (fun b _=>hown b) hβ (fun x hx=>by rw [aV _ _ _ _ hi];exact hx) (Shaped.refl _ _) fun _ _=>rfl⟩
theorem aFX{n size:Nat}{rows news:List (List T)}(us ws rest:List Value)(hn:rows.length=n)(hu:us.length=n*size)(hw:ws.length=news.length*size)(hs: ∀row,row∈rows→row.length=size)(hs': ∀row,row∈news→row.length=size){R:Nat→Nat→T→Value→Prop}
  (h1: ∀(i j:Nat) (row:List T) (x:T) (u:Value),rows[i]? =some row→row[j]? =some x→us[i*size+j]? =some u→R i j x u)
  (h2: ∀(i j:Nat) (row:List T) (x:T) (u:Value),news[i]? =some row→row[j]? =some x→ws[i*size+j]? =some u→R (n+i) j x u):
  ∀(i j:Nat) (row:List T) (x:T) (u:Value),(rows++news)[i]? =some row→row[j]? =some x→(us++ws++rest)[i*size+j]? =some u→R i j x u:=by
 intro i j row x u hi hj hu';by_cases hlt:i<rows.length
 ·rw [I0 hlt] at hi;have hjs:j<size:=by rw [←hs row (dD hi)];exact(cC.1 hj).1
  have hidx:i*size+j<us.length:=by rw [hu,←hn];exact iU hlt hjs
  rw [I0 (by simp;omega),I0 hidx] at hu';exact h1 i j row x u hi hj hu'
 rw [I1 (by omega)] at hi;have hjs:j<size:=by rw [←hs' row (dD hi)];exact(cC.1 hj).1
 have hin:=(cC.1 hi).1;have hidx:=iU (size:=size) hin hjs;have hge:us.length≤i*size+j:=by rw [hu,←hn];have:=jL size (show rows.length≤i by omega);omega
 have hsub:i*size+j-us.length=(i-rows.length)*size+j:=by rw [hu,←hn,vBJ];have:=jL size (show rows.length≤i by omega);omega
 rw [I0 (by simp;omega),I1 hge,hsub] at hu'
 have:=h2 _ j row x u hi hj hu';rw [show n+(i-rows.length)=i by omega] at this;exact this
def jK(n:Nat):List (Nat×Nat×V)→List (Nat×Nat×V)
 | []=>[]
 |h::hs=>(n+h.1,h.2.1,h.2.2)::jK n hs
theorem xS{n:Nat}: ∀{hs:List (Nat×Nat×V)} {i j:Nat} {v:V},(i,j,v)∈jK n hs↔ ∃i',i=n+i'∧(i',j,v)∈hs
 | [],_,_,_=>by simp [jK]
 |h::hs,i,j,v=>by
  simp only [jK,List.mem_cons,Prod.mk.injEq,xS (hs:=hs)];constructor
  ·rintro(⟨h1,h2,h3⟩|⟨i',h1,h2⟩)
   ·exact⟨h.1,h1,.inl (by obtain⟨a,b,c⟩:=h;cases h2;cases h3;rfl)⟩
   exact⟨i',h1,.inr h2⟩
  rintro⟨i',h1,h2|h2⟩
  ·subst h2;exact .inl ⟨h1,rfl,rfl⟩
  exact .inr ⟨i',h1,h2⟩
def SrcT(β:Map)(w:World)(X:Nat→Prop)(size:Nat)(rows:List (List T))(hs:List (Nat×Nat×V))(u:Value):Prop:=
 ∃(b off cap:Nat) (us:List Value),u= .slice (some ⟨b,off,none⟩) rows.length cap∧us.length=rows.length*size∧
  (∀(j:Nat) x,us[j]? =some x→w.cell? ⟨b,off+j,none⟩=some x)∧(∀x,x∈us→x.oneCell'=true)∧
  ∀(i j:Nat) (row:List T) (x:T) (y:Value),rows[i]? =some row→row[j]? =some x→us[i*size+j]? =some y→(∀v,(i,j,v)∈hs→RV β w X v y)∧((∀v,(i,j,v)∉hs)→RT w X x y)
def zQ:List (Nat×Nat×V)→Bool
 | []=>true
 |h::hs=>h.2.2.one&&zQ hs
theorem K6: ∀{hs:List (Nat×Nat×V)} {i j:Nat} {v:V},zQ hs=true→(i,j,v)∈hs→v.one=true
 | [],_,_,_,_,h=>by cases h
 |h::hs,i,j,v,ho,hm=>by
  simp only [zQ,Bool.and_eq_true] at ho;rcases qE.1 hm with rfl|hm
  ·exact ho.1
  exact K6 ho.2 hm
def xW(d:Nd)(n:Nat)(hs:List (Nat×Nat×V)):Bool:=
 (List.range n).all fun i=>d.kids.all fun p=>hs.any fun h=>Nat.beq h.1 i&&Nat.beq h.2.1 p.1
theorem Z4: ∀{l:List (Nat×Nat)} {j m:Nat},Z5 l j=some m→(j,m)∈l
 | [],_,_,h=>by cases h
 |p::l,j,m,h=>by
  simp only [Z5] at h;cases hb:Nat.beq p.1 j with
  |true=>rw [hb] at h;cases h;rw [←fV hb];exact uX
  |false=>rw [hb] at h;exact r9 _ (Z4 h)
theorem O3{d:Nd}{n:Nat}{hs:List (Nat×Nat×V)}(h:xW d n hs=true){i j m:Nat}(hi:i<n)(hk:d.kid j=some m): ∃v,(i,j,v)∈hs:=by have h1:=vAH.1 h i (List.mem_range.2 hi);have h2:=vAH.1 h1 (j,m) (Z4 hk);obtain⟨⟨a,b,v⟩,h3,h4⟩:=vBv.1 h2;simp only [Bool.and_eq_true] at h4;have e1:=fV h4.1;have e2:=fV h4.2;subst e1;subst e2;exact⟨v,h3⟩
theorem SrcT.of{K:Ctx}{β:Map}{s:S}{a:Act}{w:World}(h:Rel K β s a w){k g n:Nat}{Γ:List Nd}{m:Nat}{rows:List (List T)}{hs:List (Nat×Nat×V)}{u:Value}(hk:s.H k=some (.tree Γ m g rows hs))(hn:n=rows.length)
  (hu:RV β w (own K β s.H) (.msl k g (ndOf Γ m).size 0 n) u) (hp:0<rows.length) (ho:zQ hs=true) (hc:xW (ndOf Γ m) rows.length hs=true):SrcT β w (own K β s.H) (ndOf Γ m).size rows hs u:=by
 subst hn;have hre:=(h.heap k _ hk).2;rcases hre.2 with ⟨_,h2,_⟩|⟨b,us,B,a1,a2,a3,a4,a5,a6,a7,a8⟩
 ·rw [h2] at hp;simp at hp
 rcases bP hu a1 with ⟨cap,b',n',ty',rfl,hb,hw,hsh,hnn,hl,hm⟩|⟨hb,_⟩
 ·cases hb;rw [F7];have hcell: ∀(i j:Nat) (row:List T) (x:T) (y:Value),rows[i]? =some row→row[j]? =some x→us[i*(ndOf Γ m).size+j]? =some y→
    (∀v,(i,j,v)∈hs→RV β w (own K β s.H) v y)∧((∀v,(i,j,v)∉hs)→RT w (own K β s.H) x y):=by
   intro i j row x y h1 h2 h3;have hc5:=a5 i j row x y h1 h2 h3;refine⟨fun v hv=>(hc5.1 v hv).1,fun hno=>?_⟩;have h6:=hc5.2 hno;have hkid:(ndOf Γ m).kid j=none:=by
    cases hkk:(ndOf Γ m).kid j with
    |none=>rfl
    |some mm=>
     obtain⟨v,hv⟩:=O3 hc (cC.1 h1).1 hkk;exact absurd hv (hno v)
   rw [hkid] at h6;cases h6 with|frz _ _ _ h _=>exact h
  refine⟨b,0,cap,us.toList.take (rows.length*(ndOf Γ m).size),rfl,by simp;omega,fun j x hj=>?_,fun x hx=>?_,fun i j row x y h1 h2 h3=>?_⟩
  ·rw [D8] at hj;split at hj
   ·simp only [World.cell?,a2,Nat.zero_add];simpa using hj
   cases hj
  ·obtain⟨j,hj⟩:=vAG.1 hx;rw [D8] at hj;split at hj
   ·rename_i hlt;have hz:0<(ndOf Γ m).size:=Nat.pos_of_ne_zero fun e=>by rw [e] at hlt;omega
    have h1:j / (ndOf Γ m).size<rows.length:=by rw [vBl hz];exact hlt
    have h2:=Nat.mod_lt j hz;have h3:=a4 _ (vBo h1);have he:j / (ndOf Γ m).size*(ndOf Γ m).size+j%(ndOf Γ m).size=j:=by rw [Nat.mul_comm];exact Nat.div_add_mod ..
    obtain⟨c1,c2⟩:=hcell (j / (ndOf Γ m).size) (j%(ndOf Γ m).size) _ _ x (dH h1) (dH (by omega:j%(ndOf Γ m).size<(rows[j / (ndOf Γ m).size]).length)) (by rw [he];simpa using hj);by_cases hv: ∃v,(j / (ndOf Γ m).size,j%(ndOf Γ m).size,v)∈hs
    ·obtain⟨v,hv⟩:=hv;exact(c1 v hv).oneCell (K6 ho hv)
    exact(c2 fun v hv'=>hv ⟨v,hv'⟩).oneCell
   cases hj
  rw [D8] at h3;split at h3
  ·exact hcell i j row x y h1 h2 (by simpa using h3)
  cases h3
 cases hb
theorem Rel.appendT{K:Ctx}{β:Map}{s:S}{a:Act}{w:World}{t e:TypeId}{u:TypeDesc}{z:Value}{gen size bytes:Nat}(h:Rel K β s a w)(k:Nat)(Γ:List Nd)(m:Nat)(rows news:List (List T))(hs3:List (Nat×Nat×V))(hk:s.H k=some (.tree Γ m gen rows []))(hZ:(ndOf Γ m).size=size)(hY:(ndOf Γ m).ty=e)(ty:TypeId)
  (hu:K.P.underlying t=some (.slice e)) (he:TI K.P e u z size bytes) (hzs:z.cells.size=size) (hs: ∀row,row∈rows→row.length=size) (hs': ∀row,row∈news→row.length=size) (v x:Value) (hv:RV β w (own K β s.H) (.msl k gen size 0 rows.length) v)
  (hx:SrcT β w (own K β s.H) size news hs3 x) (hpos:0<news.length) (hcov:xW (ndOf Γ m) news.length hs3=true) (hb:(rows.length+news.length)*bytes≤140737488355328) (hm:rows.length+news.length≤maxLen):
  ∃v' w' β',(Builtin.append_ #[t,t] ty #[v,x]).run K.P w= .ok v' w'∧Rel K β' {s with H:=upd s.H k (some (.tree Γ m (gen+1) (rows++news) (jK rows.length hs3)))} a w'∧
   RV β' w' (own K β' (upd s.H k (some (.tree Γ m (gen+1) (rows++news) (jK rows.length hs3))))) (.msl k (gen+1) size 0 (rows.length+news.length)) v':=by
 subst hZ;subst hY;obtain⟨q,hq⟩:=w3 (h.heap k _ hk).2;have hg1:=(h.heap k _ hk).2.1;obtain⟨_,i,hi1,hi2,hi3,hi4⟩:=id he;have hm':rows.length+news.length≤9223372036854775807:=by unfold maxLen at hm;omega
 have hE:=(h.heap k _ hk).2.2;have hsn: ∀row,row∈rows++news→row.length=(ndOf Γ m).size:=fun row hrow=>by
  rcases B6.1 hrow with h|h
  ·exact hs row h
  exact hs' row h
 obtain⟨b2,off,cap2,ws,hxe,hwl,hwc,hw1,hwr⟩:=hx;have hwc': ∀j y,ws[j]? =some y→w.cell? ((⟨b2,off,none⟩:Addr).add j)=some y:=fun j y hy=>by rw [cY];exact hwc j y hy
 have hb1:(rows.length+news.length)*i.bytes≤140737488355328:=by rw [hi4];exact hb
 have hkidn: ∀i j,i<news.length→(∀v,(i,j,v)∉hs3)→(ndOf Γ m).kid j=none:=fun i j hi hno=>by
  cases hkk:(ndOf Γ m).kid j with
  |none=>rfl
  |some mm=>
   obtain⟨v,hv⟩:=O3 hcov hi hkk;exact absurd hv (hno v)
 -- the cells of old and new rows, in whatever world
 have hcells: ∀(B:Nat→Nat→Nat→Prop) (β':Map) (w':World) (X':Nat→Prop),(∀v u,RV β w (own K β s.H) v u→RV β' w' X' v u)→(∀x u,RT w (own K β s.H) x u→RT w' X' x u)→
   (∀i j c,B i j c→i<rows.length)→ ∀(us rest:List Value),us.length=rows.length*(ndOf Γ m).size→
   (∀(i j:Nat) (row:List T) (x:T) (u:Value),rows[i]? =some row→row[j]? =some x→us[i*(ndOf Γ m).size+j]? =some u→RO Γ w' X' ((ndOf Γ m).kid j) x u (B i j))→
   ∀(i j:Nat) (row:List T) (x:T) (u:Value),(rows++news)[i]? =some row→row[j]? =some x→(us++ws++rest)[i*(ndOf Γ m).size+j]? =some u→Cell Γ m (jK rows.length hs3) β' w' X' i j x u (B i j):=by
  intro B β' w' X' hrv hrt hB us rest hul hro;refine aFX us ws rest rfl hul hwl hs hs' (R:=fun i j x u=>Cell Γ m (jK rows.length hs3) β' w' X' i j x u (B i j)) (fun i j row x u h1 h2 h3=>⟨fun v hv=>?_,fun _=>hro i j row x u h1 h2 h3⟩) fun i j row x u h1 h2 h3=>⟨fun v hv=>?_,fun hno=>?_⟩
  ·obtain⟨i',e1,_⟩:=xS.1 hv
   have:=(cC.1 h1).1;omega
  ·obtain⟨i',e1,e2⟩:=xS.1 hv
   have:i'=i:=by omega
   subst this;exact⟨hrv _ _ ((hwr i' j row x u h1 h2 h3).1 v e2),fun c hc=>by have:=hB _ _ _ hc;omega⟩
  have hno': ∀v,(i,j,v)∉hs3:=fun v hv=>hno v (xS.2 ⟨i,rfl,hv⟩);rw [hkidn i j (cC.1 h1).1 hno'];exact .frz _ _ _ (hrt _ _ ((hwr i j row x u h1 h2 h3).2 hno')) (fun c hc=>by have:=hB _ _ _ hc;omega)
 -- a new block
 have finish: ∀(B:Nat→Nat→Nat→Prop) (us:List Value) (capn:Nat),us.length=rows.length*(ndOf Γ m).size→rows.length+news.length≤capn→capn≤maxLen→
   (∀(i j:Nat) (row:List T) (x:T) (u:Value),rows[i]? =some row→row[j]? =some x→us[i*(ndOf Γ m).size+j]? =some u→RO Γ w (own K β s.H) ((ndOf Γ m).kid j) x u (B i j))→
   (∀i j c,B i j c→i<rows.length∧j<(ndOf Γ m).size)→(∀i j i' j' c,B i j c→B i' j' c→i=i'∧j=j')→(∀c,β.n k c↔ ∃i j,B i j c)→
   ∃β',Rel K β' {s with H:=upd s.H k (some (.tree Γ m (gen+1) (rows++news) (jK rows.length hs3)))} a (w.drew.alloc (.cells (us.toArray++ws.toArray++Builtin.zeroCells z.cells (capn-(rows.length+news.length))) (ndOf Γ m).ty))∧
    RV β' (w.drew.alloc (.cells (us.toArray++ws.toArray++Builtin.zeroCells z.cells (capn-(rows.length+news.length))) (ndOf Γ m).ty)) (own K β' (upd s.H k (some (.tree Γ m (gen+1) (rows++news) (jK rows.length hs3))))) (.msl k (gen+1) (ndOf Γ m).size 0 (rows.length+news.length)) (.slice (some ⟨w.heap.size,0,none⟩) (rows.length+news.length) capn):=by
  intro B us capn hul hcapn hcm hur hB hd hN;have hsize:(us.toArray++ws.toArray++Builtin.zeroCells z.cells (capn-(rows.length+news.length))).size=capn*(ndOf Γ m).size:=by
   simp only [Array.size_append,List.size_toArray,size_zeroCells,hzs,hul,hwl,←Nat.add_mul];congr 1;omega
  have hdr:=pQ h;have hmv:=hdr.moveG k _ (.tree Γ m (gen+1) (rows++news) (jK rows.length hs3)) gen hk rfl (us.toArray++ws.toArray++Builtin.zeroCells z.cells (capn-(rows.length+news.length))) (ndOf Γ m).ty
   (fun β' X' w' hw' hβk hn hrv hrt hro=>⟨by omega,.inr ⟨w.heap.size,_,B,hβk,by subst hw';exact bG w.drew _,by rw [hsize,nF];exact jL _ hcapn,hsn,
    fun i j row x u a1 a2 a3=>hcells B β' w' X' (fun v u hvu=>hrv v u (hvu.mono (Ext.drew _ _) (fun _ _ h=>h) (MLe.refl _) (dA (Ext.drew _ _)))) (fun x u hxu=>hrt x u (hxu.mono (Ext.drew _ _) fun _ _ h=>h)) (fun i j c hc=>(hB i j c hc).1) us (Builtin.zeroCells z.cells (capn-(rows.length+news.length))).toList hul
     (fun i j row x u b1 b2 b3=>hro Γ _ x u (B i j) (fun c hc=>(hN c).2 ⟨i,j,hc⟩) ((hur i j row x u b1 b2 b3).mono (Ext.drew _ _) (fun _ _ h=>h) fun _ _=>rfl)) i j row x u a1 a2 (by simpa [←Array.getElem?_toList] using a3),
    fun i j c hc=>⟨by have:=(hB i j c hc).1;rw [nF];omega,(hB i j c hc).2,fun e0=>by have:=(h.fresh k c (.inr ((hN c).2 ⟨i,j,hc⟩))).2;rw [e0] at this;exact Nat.lt_irrefl _ this⟩,hd,fun c=>(hn c).trans (hN c)⟩⟩)
  refine⟨_,hmv,?_⟩;have hv2:RV (β.put k (some (some w.heap.size,gen+1))) (w.drew.alloc (.cells (us.toArray++ws.toArray++Builtin.zeroCells z.cells (capn-(rows.length+news.length))) (ndOf Γ m).ty)) (own K (β.put k (some (some w.heap.size,gen+1))) (upd s.H k (some (.tree Γ m (gen+1) (rows++news) (jK rows.length hs3))))) (.msl k (gen+1) (ndOf Γ m).size 0 (rows.length+news.length)) (.slice (some ⟨w.heap.size,0*(ndOf Γ m).size,none⟩) (rows.length+news.length) capn):=by
   have hnew:=bG w.drew (.cells (us.toArray++ws.toArray++Builtin.zeroCells z.cells (capn-(rows.length+news.length))) (ndOf Γ m).ty);refine .msl k (gen+1) (ndOf Γ m).size 0 _ capn w.heap.size (capn*(ndOf Γ m).size) (ndOf Γ m).ty (by omega) (aI _ _ _) (by simp) ?_ (by rw [l4]) hcapn hcm;have hnew':(w.drew.alloc (.cells (us.toArray++ws.toArray++Builtin.zeroCells z.cells (capn-(rows.length+news.length))) (ndOf Γ m).ty)).heap[w.heap.size]? =some (.cells (us.toArray++ws.toArray++Builtin.zeroCells z.cells (capn-(rows.length+news.length))) (ndOf Γ m).ty):=hnew;unfold World.shape?;rw [hnew'];simp only [hsize]
  rw [F7] at hv2;exact hv2
 subst hxe;rcases bP hv hq with ⟨cap,b,n,ty',rfl,hb',hw,hsh,hnn,hl,hmm⟩|⟨hb',_,hlenr,rfl⟩
 rotate_left
 ·have hr0:rows=[]:=vAv hlenr;subst hr0;have hrun:=run_append_nil (P:=K.P) w t ty (ndOf Γ m).ty i z hu hi1 hi2 ⟨b2,off,none⟩ news.length cap2 ws (by rw [hi3];exact hwl) hwc' hpos (by omega) (by simp at hb1;omega);subst hb';have hnon: ∀c,¬β.n k c:=by
   rcases hE with ⟨_,_,h0⟩|⟨b,us,B,h1,_⟩
   ·exact h0
   rw [hq] at h1;cases h1
  obtain⟨β',f1,f2⟩:=finish (fun _ _ _=>False) [] (grownCap w news.length 0 (ndOf Γ m).ty) (by simp) (by simpa using grownCap_ge w news.length 0 (ndOf Γ m).ty) (grownCap_le_maxLen w _ 0 (ndOf Γ m).ty (by unfold maxLen;simp at hm';omega)) (fun i j row x u h1 _ _=>by simp at h1)
   (fun _ _ _ h=>h.elim) (fun _ _ _ _ _ h=>h.elim) fun c=>⟨fun hc=>absurd hc (hnon c),fun⟨_,_,h⟩=>h.elim⟩
  simp only [List.length_nil,Nat.zero_add] at f1 f2⊢;exact⟨_,_,β',by rw [hrun];simp,f1,f2⟩
 subst hb';rcases hE with ⟨g1,_⟩|⟨b',cur,B,g1,g2,g3,g4,g5,g6,g7,g8⟩
 ·rw [hq] at g1;cases g1
 rw [hq] at g1;cases g1;have hcs:cur.size=cap*(ndOf Γ m).size:=by
  unfold World.shape? at hsh;rw [g2] at hsh;simp at hsh;rw [←hnn] at hsh;rw [l4] at hsh;exact hsh.2
 have htl:(cur.toList.take (rows.length*(ndOf Γ m).size)).length=rows.length*(ndOf Γ m).size:=by simp;omega
 have hrt: ∀(i j:Nat) (row:List T) (x:T) (u:Value),rows[i]? =some row→row[j]? =some x→(cur.toList.take (rows.length*(ndOf Γ m).size))[i*(ndOf Γ m).size+j]? =some u→RO Γ w (own K β s.H) ((ndOf Γ m).kid j) x u (B i j):=by
  intro i j row x u h1 h2 h3;rw [D8] at h3;split at h3
  ·exact(g5 i j row x u h1 h2 (by simpa using h3)).none
  cases h3
 simp only [Nat.zero_mul];by_cases hroom:rows.length+news.length≤cap
 ·have hfit:rows.length*(ndOf Γ m).size+ws.length≤cur.size:=by rw [hwl,hcs,←jJ];exact jL _ hroom
  have hrun:=run_append_room (P:=K.P) w t ty (ndOf Γ m).ty i hu hi1 b rows.length cap cur g2 ⟨b2,off,none⟩ news.length cap2 ws (by rw [hi3];exact hwl) hwc' hw1 hroom (by rw [hi3];exact hfit);rw [hi3] at hrun;have hszn:(cur.toList.take (rows.length*(ndOf Γ m).size)++ws++cur.toList.drop (rows.length*(ndOf Γ m).size+ws.length)).toArray.size=cur.size:=by
   simp;omega
  generalize hW:w.setRow b (cur.toList.take (rows.length*(ndOf Γ m).size)++ws++cur.toList.drop (rows.length*(ndOf Γ m).size+ws.length)).toArray=W at hrun;have hownb:own K β s.H b:= .inr ⟨k,by rw [hk];simp,.inl ⟨_,hq⟩⟩;have hext:Ext (own K β s.H) w W:=by
   subst hW;exact⟨rfl,rfl,rfl,by simp,fun kk _ hx=>setRow_other _ _ _ _ fun e0=>hx (e0▸hownb)⟩
  have hshW:Shaped β w W:=by subst hW;intro b' _;exact qK g2 hszn b'
  have hrel:=h.setRow k b (.inl ⟨_,hq⟩) cur (ndOf Γ m).ty g2 (cur.toList.take (rows.length*(ndOf Γ m).size)++ws++cur.toList.drop (rows.length*(ndOf Γ m).size+ws.length)).toArray hszn (.tree Γ m gen (rows++news) (jK rows.length hs3)) (by rw [hk];simp)
   ⟨hg1,Or.inr ⟨b,_,B,hq,setRow_heap _ _ _ _ _ _ g2,by rw [hszn,hcs,nF];exact jL _ hroom,hsn,
    fun i j row x u a1 a2 a3=>by
     rw [hW];exact hcells B β W (own K β s.H) (fun v u hvu=>hvu.mono hext (fun _ _ h=>h) (MLe.refl _) hshW) (fun x u hxu=>hxu.mono hext fun _ _ h=>h) (fun i j c hc=>(g6 i j c hc).1) _ _ htl
      (fun i j row x u b1 b2 b3=>(hrt i j row x u b1 b2 b3).mono hext (fun _ _ h=>h) fun c hc=>by subst hW;exact setRow_other _ _ _ _ (g6 i j c hc).2.2) i j row x u a1 a2 (by simpa using a3),
    fun i j c hc=>⟨by have:=(g6 i j c hc).1;rw [nF];omega,(g6 i j c hc).2⟩,g7,g8⟩⟩
  rw [hW] at hrel;have hrel2:=hrel.bumpG k (.tree Γ m gen (rows++news) (jK rows.length hs3)) (.tree Γ m (gen+1) (rows++news) (jK rows.length hs3)) gen (some b) hq hg1 (aI _ _ _) (fun β' X' hβk hn hrv hX=>by
   have hre:=(hrel.heap k _ (aI _ _ _)).2;rcases hre.2 with ⟨e1,_⟩|⟨b',us',B',e1,e2,e3,e4,e5,e6,e7,e8⟩
   ·rw [hq] at e1;cases e1
   rw [hq] at e1;cases e1;exact⟨by omega,.inr ⟨b,us',B',hβk,e2,e3,e4,fun i j row x u c1 c2 c3=>⟨fun v hv=>⟨hrv _ _ ((e5 i j row x u c1 c2 c3).1 v hv).1,((e5 i j row x u c1 c2 c3).1 v hv).2⟩,fun hno=>((e5 i j row x u c1 c2 c3).2 hno).mono (Ext.refl _ _) (fun c _=>hX c) fun _ _=>rfl⟩,e6,e7,fun c=>(hn c).trans (e8 c)⟩⟩)
  have hHH:upd (upd s.H k (some (.tree Γ m gen (rows++news) (jK rows.length hs3)))) k (some (.tree Γ m (gen+1) (rows++news) (jK rows.length hs3)))=upd s.H k (some (.tree Γ m (gen+1) (rows++news) (jK rows.length hs3))):=by
   funext j;by_cases hj:j=k
   ·subst hj;rw [aI,aI]
   rw [aH _ _ _ _ hj,aH _ _ _ _ hj,aH _ _ _ _ hj]
  simp only [hHH] at hrel2;refine⟨_,_,_,hrun,hrel2,?_⟩;have hv2:RV (β.put k (some (some b,gen+1))) W (own K (β.put k (some (some b,gen+1))) (upd s.H k (some (.tree Γ m (gen+1) (rows++news) (jK rows.length hs3))))) (.msl k (gen+1) (ndOf Γ m).size 0 (rows.length+news.length)) (.slice (some ⟨b,0*(ndOf Γ m).size,none⟩) (rows.length+news.length) cap):=by
   refine .msl k (gen+1) (ndOf Γ m).size 0 _ cap b (cap*(ndOf Γ m).size) (ndOf Γ m).ty (by omega) (aI _ _ _) (by subst hW;simpa using hw) ?_ (by rw [l4]) hroom hmm;subst hW;unfold World.shape?;rw [setRow_heap _ _ _ _ _ _ g2];simp only [hszn,hcs]
  rw [F7] at hv2;exact hv2
 have holds: ∀j u,(cur.toList.take (rows.length*(ndOf Γ m).size))[j]? =some u→w.cell? ((⟨b,0,none⟩:Addr).add j)=some u:=by
  intro j u hj;rw [cY,l4];rw [D8] at hj;split at hj
  ·simp only [World.cell?,g2];simpa using hj
  cases hj
 have hrun:=run_append_grow (P:=K.P) w t ty (ndOf Γ m).ty i z hu hi1 hi2 ⟨b,0,none⟩ rows.length cap (cur.toList.take (rows.length*(ndOf Γ m).size)) (by rw [hi3];exact htl) holds ⟨b2,off,none⟩ news.length cap2 ws (by rw [hi3];exact hwl) hwc' (by omega) (by omega) (growslice_fits (by omega) hb1);obtain⟨β',f1,f2⟩:=finish B (cur.toList.take (rows.length*(ndOf Γ m).size)) (grownCap w (rows.length+news.length) cap (ndOf Γ m).ty) htl (grownCap_ge w _ cap (ndOf Γ m).ty) (grownCap_le_maxLen w _ cap (ndOf Γ m).ty hm) hrt (fun i j c hc=>⟨(g6 i j c hc).1,(g6 i j c hc).2.1⟩) g7 g8;exact⟨_,_,β',hrun,f1,f2⟩
def C3(off:Nat)(vs:List V):List (Nat×Nat×V)→List (Nat×Nat×V)
 | []=>[]
 |h::hs=>(h.1,h.2.1,match Nat.ble off h.2.1,vs[h.2.1-off]? with
  |true,some v=>v
  |_,_=>h.2.2)::C3 off vs hs
theorem xG{off:Nat}{vs:List V}{i j:Nat}{v:V}: ∀{hs:List (Nat×Nat×V)},(i,j,v)∈hs→ ∃v1,(i,j,v1)∈C3 off vs hs
 |h::hs,hm=>by
  rcases qE.1 hm with rfl|hm
  ·exact⟨_,uX⟩
  obtain⟨v1,h1⟩:=xG hm;exact⟨v1,r9 _ h1⟩
theorem uG{off:Nat}{vs:List V}{i j:Nat}{v:V}: ∀{hs:List (Nat×Nat×V)},(i,j,v)∈C3 off vs hs→ ∃v0,(i,j,v0)∈hs∧(off≤j→ ∀x,vs[j-off]? =some x→v=x)∧(¬(off≤j∧j<off+vs.length)→v=v0)
 |h::hs,hm=>by
  rcases qE.1 hm with e|hm
  ·simp only [Prod.mk.injEq] at e;obtain⟨rfl,rfl,rfl⟩:=e;refine⟨h.2.2,uX,fun hj x hx=>?_,fun hn=>?_⟩
   ·rw [Nat.ble_eq_true_of_le hj,hx]
   split
   ·rename_i v hb hx
    have:=(cC.1 hx).1
    have:=rZ hb;exact absurd ⟨this,by omega⟩ hn
   rfl
  obtain⟨v0,h1,h2⟩:=uG hm;exact⟨v0,r9 _ h1,h2⟩
theorem aFT{β:Map}{w:World}{X:Nat→Prop}{id:Nat}{Γ:List Nd}{m gen:Nat}{rows:List (List T)}{hs:List (Nat×Nat×V)}(h:RE β w X id (.tree Γ m gen rows hs)){i off:Nat}{row:List T}{c:T}(hr:rows[i]? =some row)(hc:row[off]? =some c):
  ∃(b:Nat) (us:Array Value) (N:Nat→Prop) (x:Value),β id=some (some b,gen)∧w.heap[b]? =some (.cells us (ndOf Γ m).ty (0,0))∧us[i*(ndOf Γ m).size+off]? =some x∧Cell Γ m hs β w X i off c x N:=by
 rcases h.2 with ⟨_,h2,_⟩|⟨b,us,B,h1,h2,h3,h4,h5,_⟩
 ·rw [h2] at hr;simp at hr
 have hi:i<rows.length:=(cC.1 hr).1;have ho:off<(ndOf Γ m).size:=by
  have:=(cC.1 hc).1;rw [h4 row (dD hr)] at this;exact this
 have hlt:i*(ndOf Γ m).size+off<us.size:=by
  have:(i+1)*(ndOf Γ m).size≤rows.length*(ndOf Γ m).size:=jL _ hi;rw [jJ] at this;omega
 exact⟨b,us,_,us[i*(ndOf Γ m).size+off],h1,h2,by simp [hlt],h5 i off row c _ hr hc (by simp [hlt])⟩
section yields
variable {P:Program} {H:Nat→Option E} {d:Option Tmp} {ty:TypeId} {pos:String} {af:Array Edge} {g:Option (Nat×Bool)}
variable {t:TypeId} {u:TypeDesc} {z:Value} {size bytes:Nat}
theorem nW(x:Operand)(id gen i off:Nat)(Γ:List Nd)(m:Nat)(sz:Nat)(rows:List (List T))(hs:List (Nat×Nat×V))(row:List T)(c:T)(v:V)(ht:TI P t u z size bytes)(hu:wO u=false)(hH:H id=some (.tree Γ m gen rows hs))(hz:(ndOf Γ m).size=sz)
  (hr:rows[i]? =some row) (hc:row[off]? =some c) (hv:(i,off,v)∈hs∨((∀v,(i,off,v)∉hs)∧(ndOf Γ m).kid off=none∧v= .t c)):
  Yield P H ⟨d,.load t x,ty,pos,af,g⟩ [.eref id gen sz i off] v:=by
 subst hz;intro β w X ρ hE ha;obtain⟨b,us,N,y,h1,h2,h3,h4⟩:=aFT (hE id _ hH) hr hc;obtain⟨b',hb0,hx⟩:=iQ ha.1 h1;cases hb0;have hlt:=(vAx.1 h3).1;have hcell:w.cell? ⟨b,i*(ndOf Γ m).size+off,none⟩=some y:=by
  simp only [World.cell?,h2];exact h3
 refine⟨y,?_,?_⟩
 ·simp [execOp,hx,Instr.loadAt,Instr.sureAddr,ht.run_loadVar1 w hu hcell]
 rcases hv with hv|⟨hno,hk,rfl⟩
 ·exact(h4.1 v hv).1
 have h5:=h4.2 hno;rw [hk] at h5;cases h5 with|frz _ _ _ h _=>exact .t _ _ h
theorem wR(x:Operand)(id gen i off:Nat)(Γ:List Nd)(m:Nat)(sz:Nat)(rows:List (List T))(hs:List (Nat×Nat×V))(row:List T)(vs:List V)(ht:TI P t u z size bytes)(hu:wO u=true)(hH:H id=some (.tree Γ m gen rows hs))(hz:(ndOf Γ m).size=sz)
  (hr:rows[i]? =some row) (hl:off+size≤row.length) (hlen:vs.length=size) (hv: ∀j v,vs[j]? =some v→(i,off+j,v)∈hs):
  Yield P H ⟨d,.load t x,ty,pos,af,g⟩ [.eref id gen sz i off] (.agg vs):=by
 subst hz;intro β w X ρ hE ha;rcases(hE id _ hH).2 with ⟨_,h2,_⟩|⟨b,us,B,h1,h2,h3,h4,h5,_⟩
 ·rw [h2] at hr;simp at hr
 obtain⟨b',hb0,hx⟩:=iQ ha.1 h1;cases hb0;have hi:i<rows.length:=(cC.1 hr).1;have hrl:row.length=(ndOf Γ m).size:=h4 row (dD hr);have hlt: ∀j,j<size→i*(ndOf Γ m).size+off+j<us.size:=by
  intro j hj
  have:(i+1)*(ndOf Γ m).size≤rows.length*(ndOf Γ m).size:=jL _ hi;rw [jJ] at this;omega
 have hcell: ∀j,j<size→w.cell? ⟨b,i*(ndOf Γ m).size+off+j,none⟩=some (us.getD (i*(ndOf Γ m).size+off+j) undef):=fun j hj=>by
  have:=hlt j hj;simp [World.cell?,h2,this]
 refine⟨_,by simp [execOp,hx,Instr.loadAt,Instr.sureAddr,ht.run_loadVarN w hu hcell];rfl,?_⟩;refine .agg _ _ (by simp [hlen]) fun j c v hc' hv'=>?_;have hj:j<size:=by
  have:=(cC.1 hc').1;omega
 simp only [List.getElem?_toArray,List.getElem?_map,List.getElem?_range hj,Option.map_some,Option.some.injEq] at hv';have hx2:=dH (show off+j<row.length by omega)
 have:=hlt j hj;have h6:=(h5 i (off+j) row _ us[i*(ndOf Γ m).size+off+j] hr hx2 (by rw [←vBq];simp [this])).1 c (hv j c hc');rw [←hv'];simp only [Array.getElem?_eq_getElem this,Option.getD_some];exact h6.1
theorem aAB(x:Operand)(id gen sz i off k foff:Nat)(fs:Array Field)(fld:Field)(u':TypeDesc)(z':Value)(sz' by':Nat)(hs:P.underlying t=some (.struct fs))(hf:fs[k]? =some fld)(ho:fld.offset=foff)(htf:TI P fld.type u' z' sz' by')(hsz:(sz'==0)=false)
  (e:E) (hH:H id=some e) (hg:e.gen=some gen):Yield P H ⟨d,.fieldAddr t x k,ty,pos,af,g⟩ [.eref id gen sz i off] (.eref id gen sz i (off+foff)):=by
 intro β w X ρ hE ha;obtain⟨hg1,q,hq⟩:=q9 (hE id _ hH) hg;obtain⟨b,hb0,hx⟩:=iQ ha.1 hq;subst hb0;have hsz':sz'≠0:=by simpa using hsz
 refine⟨.pointer (some ⟨b,i*sz+(off+foff),none⟩),?_,.eref _ _ _ _ _ _ hg1 hq⟩;simp [execOp,hx,Instr.fieldAt,run_underlying hs,hf,Instr.sureAddr,fieldPlace,htf.run_sizeOf,hsz',cY,ho,Nat.add_assoc]
theorem aAz(x y:Operand)(e:TypeId)(id gen off len n:Nat)(en:E)(hH:H id=some en)(hg:en.gen=some gen)(ht:P.underlying t=some (.slice e))(he:TI P e u z size bytes)(hi:n<len):
  Yield P H ⟨d,.indexAddr t x y,ty,pos,af,g⟩ [.msl id gen size off len,.t (.int .i64 (n:Nat))] (.eref id gen size (off+n) 0):=by
 intro β w X ρ hE ha;have hn:=aW ha.2.1;generalize hx:ρ x=v at ha;have ha1:=ha.1;simp only [hx] at ha1;obtain⟨hg1,q,hq⟩:=q9 (hE id _ hH) hg;rcases bP ha1 hq with ⟨cap,b,m,ty',rfl,hb0,hw,hs,hn',hl,hm⟩|⟨_,_,h0,_⟩
 ·subst hb0;refine⟨.pointer (some ⟨b,(off+n)*size+0,none⟩),?_,.eref _ _ _ _ _ b hg1 hq⟩;simp [execOp,hx,hn,Instr.indexAt,asIntOf,run_underlying ht,he.run_sizeOf,cY,Nat.add_mul];intro h;omega
 omega
theorem aDp(x:Operand)(e:TypeId)(id gen size off len:Nat)(ht:P.underlying t=some (.slice e))(en:E)(hH:H id=some en)(hg:en.gen=some gen):Yield P H ⟨d,.call {callee:= .builtin .len,args:= #[x],argTypes:= #[t]},ty,pos,af,g⟩ [.msl id gen size off len] (.t (.int .i64 (len:Nat))):=by
 intro β w X ρ hE ha;obtain⟨a,cap,hx⟩: ∃a cap,ρ x= .slice a len cap:=by
  have h1:RV β w X (.msl id gen size off len) (ρ x):=ha.1;obtain⟨_,q,hq⟩:=q9 (hE id _ hH) hg;rcases bP h1 hq with ⟨cap,b,m,ty',hx,_⟩|⟨_,_,h0,hx⟩
  ·exact⟨_,_,hx⟩
  exact⟨none,0,by rw [h0];exact hx⟩
 refine⟨.int .i64 (len:Nat),?_,.t _ _ (.int _ _)⟩;simp [execOp,resolve,invoke,builtin,hx,Builtin.len_,run_underlying ht,goInt]
end yields
section ops
variable {K:Ctx} {s:S} {d:Option Tmp} {ty:TypeId} {pos:String} {af:Array Edge} {g:Option (Nat×Bool)}
variable {t:TypeId} {u:TypeDesc} {z:Value} {gen size bytes:Nat}
theorem aF8(k k3 g3 n3:Nat)(x y:Operand)(e:TypeId)(Γ Γ3:List Nd)(m m3:Nat)(rows news:List (List T))(hs3:List (Nat×Nat×V))(hd: ∀i,d=some i→Nat.blt i K.nt=true)(hx:s.get x= .msl k gen size 0 rows.length)(hy:s.get y= .msl k3 g3 size 0 n3)(hk:s.H k=some (.tree Γ m gen rows []))(hk3:s.H k3=some (.tree Γ3 m3 g3 news hs3))
  (h3:ndOf Γ3 m3=ndOf Γ m) (hn3:n3=news.length) (hu:K.P.underlying t=some (.slice e)) (he:TI K.P e u z size bytes) (hzs:Nat.beq z.cells.size size=true) (hZ:(ndOf Γ m).size=size) (hY:(ndOf Γ m).ty=e) (hs: ∀row,row∈rows→row.length=size) (hs': ∀row,row∈news→row.length=size)
  (hpos:0<news.length) (hcov:xW (ndOf Γ m) news.length hs3=true) (ho:zQ hs3=true) (hb:(rows.length+news.length)*bytes≤140737488355328) (hm:rows.length+news.length≤9223372036854775807):
  OpJ K ⟨d,.call {callee:= .builtin .append,args:= #[x,y],argTypes:= #[t,t]},ty,pos,af,g⟩ s
   (({s with H:=upd s.H k (some (.tree Γ m (gen+1) (rows++news) (jK rows.length hs3)))}:S).put d (.msl k (gen+1) size 0 (rows.length+news.length))):=by
 intro β a w next Q hr hkk
 have hxv:=hr.get x;rw [hx] at hxv;have hyv:=hr.get y;rw [hy] at hyv;have hsrc:=SrcT.of hr hk3 hn3 (by rw [h3,hZ];exact hyv) hpos ho (by rw [h3];exact hcov);rw [h3,hZ] at hsrc;obtain⟨v',w',β',h1,h2,h4⟩:=hr.appendT k Γ m rows news hs3 hk hZ hY ty hu he (fV hzs) hs hs' _ _ hxv hsrc hpos hcov hb (by unfold maxLen;omega);unfold Oper.wp;have hrun:(execOp a.eval ⟨d,.call {callee:= .builtin .append,args:= #[x,y],argTypes:= #[t,t]},ty,pos,af,g⟩).run K.P w= .ok (.value v') w':=by
  simp [execOp,resolve,invoke,builtin,h1]
 rw [hrun];exact hkk β' _ w' (h2.put d hd h4)
theorem aA1(x y:Operand)(id i off:Nat)(Γ:List Nd)(m:Nat)(rows:List (List T))(row:List T)(v:V)(hs:List (Nat×Nat×V))(hx:s.get x= .eref id gen size i off)(hv:s.get y=v)(hval:v.val=true)(hone:nT v.cs=true)
  (hH:s.H id=some (.tree Γ m gen rows hs)) (hz:(ndOf Γ m).size=size) {tsz:Nat} (ht:TI K.P t u z tsz bytes) (htz:v.cs.length=tsz) (hpos:0<tsz) (hr':rows[i]? =some row) (hl:off+tsz≤row.length)
  (hi1: ∀i' j' v0,(i',j',v0)∈hs→off≤j'→j'<off+tsz→i'=i) (hi2: ∀j,j<tsz→ ∃v0,(i,off+j,v0)∈hs):
  OpJ K ⟨none,.store t x y,ty,pos,af,g⟩ s {s with H:=upd s.H id (some (.tree Γ m gen rows (C3 off v.cs hs)))}:=by
 subst hz;intro β a w next Q hr hk
 have hxv:=hr.get x;rw [hx] at hxv;have hre:=(hr.heap id _ hH).2;rcases hre.2 with ⟨_,h2,_⟩|⟨b,us,B,h1,h2,h3,h4,h5,h6,h7,h8⟩
 ·rw [h2] at hr';simp at hr'
 obtain⟨b',hb0,hxe⟩:=iQ hxv h1;cases hb0;have hi:=(cC.1 hr').1;have hrl:row.length=(ndOf Γ m).size:=h4 row (dD hr');have hidx:i*(ndOf Γ m).size+off+tsz≤us.size:=by
  have:(i+1)*(ndOf Γ m).size≤rows.length*(ndOf Γ m).size:=jL _ hi;rw [jJ] at this;omega
 have hyv:=hr.get y;rw [hv] at hyv;obtain⟨c1,c2⟩:=hyv.cells hval;have hsz:(a.eval y).cells.size=tsz:=c1.trans htz;have hone': ∀e∈(a.eval y).cells.toList,e.oneCell'=true:=by
  intro e he;obtain⟨j,hj⟩:=vAG.1 he;have hj':(a.eval y).cells[j]? =some e:=by simpa using hj
  have hlt:=(vAx.1 hj').1;have hc:=dH (show j<v.cs.length by omega);exact(c2 j _ e hc hj').oneCell (rM hone hc)
 unfold Oper.wp;have hrun:=mM ht w b (i*(ndOf Γ m).size+off) us _ (a.eval y) h2 hsz (by omega) hone';have hrun':(execOp a.eval ⟨none,.store t x y,ty,pos,af,g⟩).run K.P w= .ok .skip (w.setRow b (us.toList.take (i*(ndOf Γ m).size+off)++(a.eval y).cells.toList++us.toList.drop (i*(ndOf Γ m).size+off+(a.eval y).cells.toList.length)).toArray):=by
  simp only [execOp,hxe,Instr.storeAt,Instr.sureAddr,Sem.run_bind,Sem.run_pure,Result.andThen_ok,hrun]
 rw [hrun'];have hlen:(us.toList.take (i*(ndOf Γ m).size+off)++(a.eval y).cells.toList++us.toList.drop (i*(ndOf Γ m).size+off+(a.eval y).cells.toList.length)).length=us.size:=by
  simp [hsz];omega
 have hownb:own K β s.H b:= .inr ⟨id,by rw [hH];simp,.inl ⟨_,h1⟩⟩;generalize hus:(us.toList.take (i*(ndOf Γ m).size+off)++(a.eval y).cells.toList++us.toList.drop (i*(ndOf Γ m).size+off+(a.eval y).cells.toList.length)).toArray=us' at*;have hsz':us'.size=us.size:=by rw [←hus];simpa using hlen
 have hext:Ext (own K β s.H) w (w.setRow b us'):=⟨rfl,rfl,rfl,by simp,fun kk _ hx=>setRow_other _ _ _ _ fun e0=>hx (e0▸hownb)⟩
 have hshW:Shaped β w (w.setRow b us'):=fun b' _=>qK h2 hsz' b';refine hk β _ _ (Rel.setRow hr id b (.inl ⟨_,h1⟩) us _ h2 us' hsz' (.tree Γ m gen rows (C3 off v.cs hs)) (by rw [hH];simp) ?_);refine⟨hre.1,.inr ⟨b,us',B,h1,setRow_heap _ _ _ _ _ _ h2,by rw [hsz'];exact h3,h4,fun i' j' row' x' u' a1 a2 a3=>?_,h6,h7,h8⟩⟩;have hjs:j'<(ndOf Γ m).size:=by rw [←h4 row' (dD a1)];exact(cC.1 a2).1
 by_cases hij:i'=i∧off≤j'∧j'<off+tsz
 ·obtain⟨rfl,hj1,hj2⟩:=hij;obtain⟨v0,hm0⟩:=hi2 (j'-off) (by omega);rw [show off+(j'-off)=j' by omega] at hm0;have hold:=h5 i' j' row' x' us[i'*(ndOf Γ m).size+j'] a1 a2 (by rw [vAI (by omega)]);have hmem: ∃v1,(i',j',v1)∈C3 off v.cs hs:=xG hm0;obtain⟨v1,hm1⟩:=hmem;refine⟨fun v' hv'=>⟨?_,(hold.1 v0 hm0).2⟩,fun hno=>absurd hm1 (hno v1)⟩;obtain⟨_,_,q2,_⟩:=uG hv';have hcx:=dH (show j'-off<v.cs.length by omega);have e:=q2 hj1 _ hcx
  have:(a.eval y).cells[j'-off]? =some u':=by
   rw [←hus] at a3;simp only [List.getElem?_toArray] at a3;rw [I0 (by simp [hsz];omega),I1 (by simp;omega)] at a3;have e3:i'*(ndOf Γ m).size+j'-(us.toList.take (i'*(ndOf Γ m).size+off)).length=j'-off:=by
    rw [mH,vBe];omega
   rw [e3] at a3;simpa using a3
  rw [e];exact(c2 _ _ u' hcx this).mono hext (fun _ _ h=>h) (MLe.refl _) hshW
 have hne:i'*(ndOf Γ m).size+j'<i*(ndOf Γ m).size+off∨i*(ndOf Γ m).size+off+tsz≤i'*(ndOf Γ m).size+j':=by
  rcases Nat.lt_trichotomy i' i with h|h|h
  ·have:=jL (ndOf Γ m).size (show i'+1≤i by omega);rw [jJ] at this;omega
  ·subst h
   have: ¬(off≤j'∧j'<off+tsz):=fun h=>hij ⟨rfl,h⟩;omega
  have:=jL (ndOf Γ m).size (show i+1≤i' by omega);rw [jJ] at this;omega
 have hold:us[i'*(ndOf Γ m).size+j']? =some u':=by
  rw [←hus] at a3;simp only [List.getElem?_toArray,List.getElem?_append,List.length_append,List.length_take,List.getElem?_take,List.getElem?_drop,Array.length_toList,hsz] at a3;rw [show min (i*(ndOf Γ m).size+off) us.size=i*(ndOf Γ m).size+off by omega] at a3;rcases hne with hlt|hge
  ·rw [if_pos (by omega),if_pos (by omega),if_pos (by omega)] at a3;simpa using a3
  rw [if_neg (by omega)] at a3;rw [show i*(ndOf Γ m).size+off+tsz+(i'*(ndOf Γ m).size+j'-(i*(ndOf Γ m).size+off+tsz))=i'*(ndOf Γ m).size+j' by omega] at a3;simpa using a3
 have hc0:=h5 i' j' row' x' u' a1 a2 hold;have hc1:=hc0.mono (β':=β) hext (fun _ _ h=>h) (MLe.refl _) hshW fun c hc=>setRow_other _ _ _ _ (h6 _ _ _ hc).2.2;refine⟨fun v' hv'=>?_,fun hno=>hc1.2 fun v' hv'=>?_⟩
 ·obtain⟨v0,q1,_,q3⟩:=uG hv';have hnr: ¬(off≤j'∧j'<off+v.cs.length):=fun h=>hij ⟨hi1 _ _ _ q1 h.1 (by omega),h.1,by omega⟩;rw [q3 hnr];exact hc1.1 v0 q1
 obtain⟨v1,hm1⟩:=xG (off:=off) (vs:=v.cs) hv';exact hno v1 hm1
theorem S9(x y:Operand)(id i off:Nat)(Γ:List Nd)(m:Nat)(rows:List (List T))(row:List T)(v:V)(hs:List (Nat×Nat×V))(hx:s.get x= .eref id gen size i off)(hv:s.get y=v)(hval:v.val=true)(hone:nT v.cs=true)
  (hH:s.H id=some (.tree Γ m gen rows hs)) (hz:(ndOf Γ m).size=size) {tsz:Nat} (ht:TI K.P t u z tsz bytes) (htz:v.cs.length=tsz) (hpos:0<tsz) (hr':rows[i]? =some row) (hl:off+tsz≤row.length)
  {hs':List (Nat×Nat×V)} (hA: ∀i' j' v',(i',j',v')∈hs'→ ∃v0,(i',j',v0)∈hs∧((i'=i∧off≤j'∧j'<off+tsz)→v.cs[j'-off]? =some v')∧(¬(i'=i∧off≤j'∧j'<off+tsz)→v'=v0)) (hB: ∀i' j' v0,(i',j',v0)∈hs→ ∃v1,(i',j',v1)∈hs') (hi2: ∀j,j<tsz→ ∃v0,(i,off+j,v0)∈hs):
  OpJ K ⟨none,.store t x y,ty,pos,af,g⟩ s {s with H:=upd s.H id (some (.tree Γ m gen rows hs'))}:=by
 subst hz;intro β a w next Q hr hk
 have hxv:=hr.get x;rw [hx] at hxv;have hre:=(hr.heap id _ hH).2;rcases hre.2 with ⟨_,h2,_⟩|⟨b,us,B,h1,h2,h3,h4,h5,h6,h7,h8⟩
 ·rw [h2] at hr';simp at hr'
 obtain⟨b',hb0,hxe⟩:=iQ hxv h1;cases hb0;have hi:=(cC.1 hr').1;have hrl:row.length=(ndOf Γ m).size:=h4 row (dD hr');have hidx:i*(ndOf Γ m).size+off+tsz≤us.size:=by
  have:(i+1)*(ndOf Γ m).size≤rows.length*(ndOf Γ m).size:=jL _ hi;rw [jJ] at this;omega
 have hyv:=hr.get y;rw [hv] at hyv;obtain⟨c1,c2⟩:=hyv.cells hval;have hsz:(a.eval y).cells.size=tsz:=c1.trans htz;have hone': ∀e∈(a.eval y).cells.toList,e.oneCell'=true:=by
  intro e he;obtain⟨j,hj⟩:=vAG.1 he;have hj':(a.eval y).cells[j]? =some e:=by simpa using hj
  have hlt:=(vAx.1 hj').1;have hc:=dH (show j<v.cs.length by omega);exact(c2 j _ e hc hj').oneCell (rM hone hc)
 unfold Oper.wp;have hrun:=mM ht w b (i*(ndOf Γ m).size+off) us _ (a.eval y) h2 hsz (by omega) hone';have hrun':(execOp a.eval ⟨none,.store t x y,ty,pos,af,g⟩).run K.P w= .ok .skip (w.setRow b (us.toList.take (i*(ndOf Γ m).size+off)++(a.eval y).cells.toList++us.toList.drop (i*(ndOf Γ m).size+off+(a.eval y).cells.toList.length)).toArray):=by
  simp only [execOp,hxe,Instr.storeAt,Instr.sureAddr,Sem.run_bind,Sem.run_pure,Result.andThen_ok,hrun]
 rw [hrun'];have hlen:(us.toList.take (i*(ndOf Γ m).size+off)++(a.eval y).cells.toList++us.toList.drop (i*(ndOf Γ m).size+off+(a.eval y).cells.toList.length)).length=us.size:=by
  simp [hsz];omega
 have hownb:own K β s.H b:= .inr ⟨id,by rw [hH];simp,.inl ⟨_,h1⟩⟩;generalize hus:(us.toList.take (i*(ndOf Γ m).size+off)++(a.eval y).cells.toList++us.toList.drop (i*(ndOf Γ m).size+off+(a.eval y).cells.toList.length)).toArray=us' at*;have hsz':us'.size=us.size:=by rw [←hus];simpa using hlen
 have hext:Ext (own K β s.H) w (w.setRow b us'):=⟨rfl,rfl,rfl,by simp,fun kk _ hx=>setRow_other _ _ _ _ fun e0=>hx (e0▸hownb)⟩
 have hshW:Shaped β w (w.setRow b us'):=fun b' _=>qK h2 hsz' b';refine hk β _ _ (Rel.setRow hr id b (.inl ⟨_,h1⟩) us _ h2 us' hsz' (.tree Γ m gen rows hs') (by rw [hH];simp) ?_);refine⟨hre.1,.inr ⟨b,us',B,h1,setRow_heap _ _ _ _ _ _ h2,by rw [hsz'];exact h3,h4,fun i' j' row' x' u' a1 a2 a3=>?_,h6,h7,h8⟩⟩;have hjs:j'<(ndOf Γ m).size:=by rw [←h4 row' (dD a1)];exact(cC.1 a2).1
 by_cases hij:i'=i∧off≤j'∧j'<off+tsz
 ·obtain⟨rfl,hj1,hj2⟩:=hij;obtain⟨v0,hm0⟩:=hi2 (j'-off) (by omega);rw [show off+(j'-off)=j' by omega] at hm0;have hold:=h5 i' j' row' x' us[i'*(ndOf Γ m).size+j'] a1 a2 (by rw [vAI (by omega)]);obtain⟨v1,hm1⟩:=hB _ _ _ hm0;refine⟨fun v' hv'=>⟨?_,(hold.1 v0 hm0).2⟩,fun hno=>absurd hm1 (hno v1)⟩;obtain⟨_,_,q2,_⟩:=hA _ _ _ hv';have hcx:=q2 ⟨rfl,hj1,hj2⟩
  have:(a.eval y).cells[j'-off]? =some u':=by
   rw [←hus] at a3;simp only [List.getElem?_toArray] at a3;rw [I0 (by simp [hsz];omega),I1 (by simp;omega)] at a3;have e3:i'*(ndOf Γ m).size+j'-(us.toList.take (i'*(ndOf Γ m).size+off)).length=j'-off:=by
    rw [mH,vBe];omega
   rw [e3] at a3;simpa using a3
  exact(c2 _ _ u' hcx this).mono hext (fun _ _ h=>h) (MLe.refl _) hshW
 have hne:i'*(ndOf Γ m).size+j'<i*(ndOf Γ m).size+off∨i*(ndOf Γ m).size+off+tsz≤i'*(ndOf Γ m).size+j':=by
  rcases Nat.lt_trichotomy i' i with h|h|h
  ·have:=jL (ndOf Γ m).size (show i'+1≤i by omega);rw [jJ] at this;omega
  ·subst h
   have: ¬(off≤j'∧j'<off+tsz):=fun h=>hij ⟨rfl,h⟩;omega
  have:=jL (ndOf Γ m).size (show i+1≤i' by omega);rw [jJ] at this;omega
 have hold:us[i'*(ndOf Γ m).size+j']? =some u':=by
  rw [←hus] at a3;simp only [List.getElem?_toArray,List.getElem?_append,List.length_append,List.length_take,List.getElem?_take,List.getElem?_drop,Array.length_toList,hsz] at a3;rw [show min (i*(ndOf Γ m).size+off) us.size=i*(ndOf Γ m).size+off by omega] at a3;rcases hne with hlt|hge
  ·rw [if_pos (by omega),if_pos (by omega),if_pos (by omega)] at a3;simpa using a3
  rw [if_neg (by omega)] at a3;rw [show i*(ndOf Γ m).size+off+tsz+(i'*(ndOf Γ m).size+j'-(i*(ndOf Γ m).size+off+tsz))=i'*(ndOf Γ m).size+j' by omega] at a3;simpa using a3
 have hc0:=h5 i' j' row' x' u' a1 a2 hold;have hc1:=hc0.mono (β':=β) hext (fun _ _ h=>h) (MLe.refl _) hshW fun c hc=>setRow_other _ _ _ _ (h6 _ _ _ hc).2.2;refine⟨fun v' hv'=>?_,fun hno=>hc1.2 fun v' hv'=>?_⟩
 ·obtain⟨v0,q1,_,q3⟩:=hA _ _ _ hv';rw [q3 hij];exact hc1.1 v0 q1
 obtain⟨v1,hm1⟩:=hB _ _ _ hv';exact hno v1 hm1
end ops
def E.gen?:E→Option Nat
 | .cells _=>none
 | .arr _ gen _ _=>some gen
 | .tree _ _ gen _ _=>some gen
theorem G7{β:Map}{w:World}{X:Nat→Prop}{id g:Nat}{en:E}(hg:en.gen? =some g)(h:RE β w X id en):1≤g∧ ∃q,β id=some (q,g):=by
 cases en with
 |cells cs=>cases hg
 |arr ty gen size rows=>cases hg;exact⟨h.1,gG h⟩
 |tree Γ m gen rows hs=>cases hg;exact⟨h.1,w3 h⟩
section yields
variable {P:Program} {H:Nat→Option E} {d:Option Tmp} {ty:TypeId} {pos:String} {af:Array Edge} {g:Option (Nat×Bool)}
variable {t:TypeId} {u:TypeDesc} {z:Value} {size bytes:Nat}
def aDh(len:Nat)(lo hi:Option Operand)(ρ:Operand→Value)(a b:Nat):Prop:=
 (match lo with|some x=>ρ x= .int .i64 (a:Nat)|none=>a=0)∧(match hi with|some x=>ρ x= .int .i64 (b:Nat)|none=>b=len)
theorem G1{P:Program}{len cap a b:Nat}{lo hi:Option Operand}{ρ:Operand→Value}(h:aDh len lo hi ρ a b)(h1:a≤b)(h2:b≤cap)(w:World):(Instr.sliceBounds true len cap (lo.map ρ) (hi.map ρ) none).run P w= .ok (a,b,cap) w:=by
 obtain⟨h3,h4⟩:=h;cases lo with
 |none=>
  have h3:a=0:=h3;subst h3;cases hi with
  |none=>
   have h4:b=len:=h4;subst h4;simp [Instr.sliceBounds]
  |some y=>
   have h4:ρ y=_:=h4;simp [Instr.sliceBounds,h4,cG w b cap _ h2]
 |some x=>
  have h3:ρ x=_:=h3;cases hi with
  |none=>
   have h4:b=len:=h4;subst h4;simp [Instr.sliceBounds,h3,cG w a b _ h1]
  |some y=>
   have h4:ρ y=_:=h4;simp [Instr.sliceBounds,h3,h4,cG w b cap _ h2,cG w a b _ h1]
theorem aKY(x:Operand)(lo hi:Option Operand)(e:TypeId)(id gen off len a b:Nat)(en:E)(hH:H id=some en)(hg:en.gen? =some gen)(ht:P.underlying t=some (.slice e))(he:TI P e u z size bytes)
  (h1:a≤b) (h2:b≤len) (h3:a=0∨a<len) {vals:List V} (hb: ∀β w X (ρ:Operand→Value),RVs β w X vals (lo.toList.map ρ++hi.toList.map ρ)→aDh len lo hi ρ a b):
  Yield P H ⟨d,.slice t x lo hi none,ty,pos,af,g⟩ (.msl id gen size off len::vals) (.msl id gen size (off+a) (b-a)):=by
 intro β w X ρ hE ha;obtain⟨hg1,q,hq⟩:=G7 hg (hE id _ hH);have ha:RVs β w X (.msl id gen size off len::vals) (ρ x::(lo.toList.map ρ++hi.toList.map ρ)):=by
  cases lo<;>cases hi<;>simpa [Op.operands] using ha
 have hbd:aDh len lo hi ρ a b:=hb β w X ρ ha.2;have hx:RV β w X (.msl id gen size off len) (ρ x):=ha.1;rcases bP hx hq with ⟨cap,b',n,ty',hxe,hb0,hw,hs,hn,hl,hm⟩|⟨hb0,h0,hl0,hxe⟩
 ·subst hb0;refine⟨.slice (some ⟨b',(off+a)*size,none⟩) (b-a) (cap-a),?_,.msl id gen size (off+a) (b-a) (cap-a) b' n ty' hg1 hq hw hs (by rw [←hn];congr 1;omega) (by omega) (by omega)⟩;simp only [execOp,Sem.run_bind,Instr.sliceAt,Instr.slice,run_underlying ht,Result.andThen_ok,hxe,Option.map_none,Option.map_some,G1 hbd h1 (show b≤cap by omega),he.run_sizeOf,Sem.run_pure];by_cases hc:cap=a
  ·rw [if_pos hc]
   have:a=0:=by omega
   subst this;simp
  rw [if_neg hc];simp [cY,Nat.add_mul]
 subst hb0;subst h0;subst hl0;have e1:b=0:=by omega
 have e2:a=0:=by omega
 subst e1;subst e2;refine⟨.slice none 0 0,?_,.msl0 id gen size hg1 hq⟩;simp only [execOp,Sem.run_bind,Instr.sliceAt,Instr.slice,run_underlying ht,Result.andThen_ok,hxe,Option.map_none,G1 hbd (Nat.le_refl _) (Nat.le_refl 0),he.run_sizeOf,Sem.run_pure];simp
theorem aI6(x:Operand)(lo hi:Option Operand)(e e':TypeId)(id gen off len a b:Nat)(rows:List (List T))(hH:H id=some (.arr e' gen size rows))(ht:P.underlying t=some (.slice e))(he:TI P e u z size bytes)
  (hp:0<size) (h1:a<b) (h2:off+b≤rows.length) {vals:List V} (hb: ∀β w X (ρ:Operand→Value),RVs β w X vals (lo.toList.map ρ++hi.toList.map ρ)→aDh len lo hi ρ a b):
  Yield P H ⟨d,.slice t x lo hi none,ty,pos,af,g⟩ (.msl id gen size off len::vals) (.msl id gen size (off+a) (b-a)):=by
 intro β w X ρ hE ha;have hre:=hE id _ hH;have hg1:=hre.1;have ha:RVs β w X (.msl id gen size off len::vals) (ρ x::(lo.toList.map ρ++hi.toList.map ρ)):=by
  cases lo<;>cases hi<;>simpa [Op.operands] using ha
 have hbd:aDh len lo hi ρ a b:=hb β w X ρ ha.2;have hx:RV β w X (.msl id gen size off len) (ρ x):=ha.1;rcases hre.2 with ⟨hq,hr0⟩|⟨b2,us,hq,g2,g3,g4,g5⟩
 ·subst hr0;simp at h2;omega
 rcases bP hx hq with ⟨cap,b',n,ty',hxe,hb0,hw,hs,hn,hl,hm⟩|⟨hb0,_⟩
 ·cases hb0;have husz:us.size=n:=by
   unfold World.shape? at hs;rw [g2] at hs;simp at hs;exact hs.2
  have hcap:b≤cap:=by
   have h3:(off+b)*size≤(off+cap)*size:=by
    rw [hn,←husz];exact r8 (jL _ h2) g3
   have:=Nat.le_of_mul_le_mul_right h3 hp;omega
  refine⟨.slice (some ⟨b2,(off+a)*size,none⟩) (b-a) (cap-a),?_,.msl id gen size (off+a) (b-a) (cap-a) b2 n ty' hg1 hq hw hs (by rw [←hn];congr 1;omega) (by omega) (by omega)⟩;simp only [execOp,Sem.run_bind,Instr.sliceAt,Instr.slice,run_underlying ht,Result.andThen_ok,hxe,Option.map_none,Option.map_some,G1 hbd (show a≤b by omega) hcap,he.run_sizeOf,Sem.run_pure];rw [if_neg (show¬cap=a by omega)];simp [cY,Nat.add_mul]
 cases hb0
theorem aI7(x:Operand)(lo hi:Option Operand)(e:TypeId)(id gen size0 off len a:Nat)(en:E)(hH:H id=some en)(hg:en.gen? =some gen)(ht:P.underlying t=some (.slice e))(he:TI P e u z size bytes)
  (h2:a≤len) {vals:List V} (hb: ∀β w X (ρ:Operand→Value),RVs β w X vals (lo.toList.map ρ++hi.toList.map ρ)→aDh len lo hi ρ a a):
  Yield P H ⟨d,.slice t x lo hi none,ty,pos,af,g⟩ (.msl id gen size0 off len::vals) (.t (.sl [])):=by
 intro β w X ρ hE ha;obtain⟨hg1,q,hq⟩:=G7 hg (hE id _ hH);have ha:RVs β w X (.msl id gen size0 off len::vals) (ρ x::(lo.toList.map ρ++hi.toList.map ρ)):=by
  cases lo<;>cases hi<;>simpa [Op.operands] using ha
 have hbd:aDh len lo hi ρ a a:=hb β w X ρ ha.2;have hx:RV β w X (.msl id gen size0 off len) (ρ x):=ha.1;obtain⟨ad,cap,hxe,hcap⟩: ∃ad cap,ρ x= .slice ad len cap∧len≤cap:=by
  rcases bP hx hq with ⟨cap,b',n,ty',hxe,hb0,hw,hs,hn,hl,hm⟩|⟨hb0,h0,hl0,hxe⟩
  ·exact⟨_,cap,hxe,hl⟩
  exact⟨none,0,by rw [hl0];exact hxe,by omega⟩
 refine⟨.slice (if cap=a then ad else ad.map (·.add (a*size))) (a-a) (cap-a),?_,.t _ _ (by rw [vBk];exact .sl0 _ _)⟩;simp only [execOp,Sem.run_bind,Instr.sliceAt,Instr.slice,run_underlying ht,Result.andThen_ok,hxe,Option.map_none,G1 hbd (Nat.le_refl _) (show a≤cap by omega),he.run_sizeOf,Sem.run_pure]
theorem aBI(x:Operand)(id gen size2 i off:Nat)(en:E)(hH:H id=some en)(hg:en.gen? =some gen):Yield P H ⟨d,.nilCheck x,ty,pos,af,g⟩ [.eref id gen size2 i off] (.eref id gen size2 i off):=by intro β w X ρ hE ha;obtain⟨hg1,q,hq⟩:=G7 hg (hE id _ hH);have h1:RV β w X (.eref id gen size2 i off) (ρ x):=ha.1;obtain⟨b,_,hx⟩:=iQ h1 hq;exact⟨ρ x,by simp [execOp,hx],h1⟩
theorem aGG(x lo hi mx:Operand)(e:TypeId)(id gen size2 off len a b c:Nat)(en:E)(hH:H id=some en)(hg:en.gen? =some gen)(ht:P.underlying t=some (.slice e))(he:TI P e u z size bytes)
  (h1:a≤b) (h2:b≤c) (h3:c≤len):Yield P H ⟨d,.slice t x (some lo) (some hi) (some mx),ty,pos,af,g⟩ [.msl id gen size2 off len,.t (.int .i64 (a:Nat)),.t (.int .i64 (b:Nat)),.t (.int .i64 (c:Nat))] .junk:=by
 intro β w X ρ hE ha;obtain⟨hg1,q,hq⟩:=G7 hg (hE id _ hH);have hx:RV β w X (.msl id gen size2 off len) (ρ x):=ha.1;have hl:ρ lo=_:=aW ha.2.1;have hh:ρ hi=_:=aW ha.2.2.1;have hm:ρ mx=_:=aW ha.2.2.2.1;obtain⟨ad,cap,hxe,hcap⟩: ∃ad cap,ρ x= .slice ad len cap∧len≤cap:=by
  rcases bP hx hq with ⟨cap,b',n,ty',hxe,hb0,hw,hs,hn,hl,hm⟩|⟨hb0,h0,hl0,hxe⟩
  ·exact⟨_,cap,hxe,hl⟩
  exact⟨none,0,by rw [hl0];exact hxe,by omega⟩
 refine⟨.slice (if c=a then ad else ad.map (·.add (a*size))) (b-a) (c-a),?_,.junk _⟩;simp [execOp,hxe,hl,hh,hm,Instr.sliceAt,Instr.slice,run_underlying ht,Instr.sliceBounds,cG w c cap _ (by omega),cG w b c _ h2,cG w a b _ h1,he.run_sizeOf]
end yields
section steps
variable {K:Ctx} {s:S} {d:Option Tmp} {ty:TypeId} {pos:String} {af:Array Edge} {g:Option (Nat×Bool)}
variable {t:TypeId} {u:TypeDesc} {z:Value} {size bytes gen:Nat}
theorem aDd{β:Map}{a:Act}{w:World}(hr:Rel K β s a w)(id b:Nat)(e:TypeId)(rows rows':List (List T))(us us':Array Value)(hH:s.H id=some (.arr e gen size rows))(hq:β id=some (some b,gen))(hus:w.heap[b]? =some (.cells us e (0,0)))
  (hsz:us'.size=us.size) (hlen:rows'.length*size≤us.size) (hrow: ∀row,row∈rows'→row.length=size)
  (hc: ∀(i j:Nat) (row:List T) (x:T) (u:Value),rows'[i]? =some row→row[j]? =some x→us'[i*size+j]? =some u→(∃(i':Nat) (row':List T),rows[i']? =some row'∧row'[j]? =some x∧us[i'*size+j]? =some u)∨(∀w X,RT w X x u)):
  Rel K β {s with H:=upd s.H id (some (.arr e gen size rows'))} a (w.setRow b us'):=by
 refine Rel.setRow hr id b (.inl ⟨_,hq⟩) us e hus us' hsz (.arr e gen size rows') (by rw [hH];simp) ?_;have hb':own K β s.H b:= .inr ⟨id,by rw [hH];simp,.inl ⟨_,hq⟩⟩;have hre:=(hr.heap id _ hH).2;refine⟨hre.1,.inr ⟨b,us',hq,setRow_heap _ _ _ _ _ _ hus,by omega,hrow,fun i j row x u a1 a2 a3=>?_⟩⟩;rcases hc i j row x u a1 a2 a3 with ⟨i',row',c1,c2,c3⟩|hc
 ·rcases hre.2 with ⟨h1,_⟩|⟨b2,us2,h1,h2,h3,h4,h5⟩
  ·rw [hq] at h1;cases h1
  rw [hq] at h1;cases h1;rw [hus] at h2;cases h2;exact(h5 i' j row' x u c1 c2 c3).mono ⟨rfl,rfl,rfl,by simp,fun k _ hx=>setRow_other _ _ _ _ fun e0=>hx (e0▸hb')⟩ fun _ _ h=>h
 exact hc _ _
theorem Rel.sameH{β:Map}{a:Act}{w:World}(hr:Rel K β s a w)(id:Nat)(en:E)(hH:s.H id=some en):Rel K β {s with H:=upd s.H id (some en)} a w:=by
 have:upd s.H id (some en)=s.H:=by
  funext i;by_cases hi:i=id
  ·subst hi;rw [aI,hH]
  rw [aH _ _ _ _ hi]
 rw [this];exact hr
end steps
end Go.Lift
