/- Regions, loops, joins and ends by the evaluator. -/
import Derived.Test.YtlbojjldejlgaaaGreatTLiftX
namespace Go.Lift
open Go
def Eff.cat(a b:Eff):Eff:=⟨a.ts++b.ts,a.hs++b.hs,a.us++b.us⟩
def Eff.nil:Eff:=⟨[],[],[]⟩
theorem aBT{α:Type}: ∀(a b:List (Nat×α)) (f:Nat→α),cF f (a++b)=cF (cF f a) b
 | [],_,_=>rfl
 |(d,v)::a,b,f=>by simp only [List.cons_append,cF];exact aBT a b _
theorem dU(a b:Eff)(s:S):(a.cat b).app s=b.app (a.app s):=by unfold Eff.app Eff.cat;simp only [aBT]
theorem dI{α:Type}: ∀(l:List (Nat×α)) (f:Nat→α) (r:Nat),((∀v,(r,v)∉l)∧cF f l r=f r)∨ ∃v,(r,v)∈l∧cF f l r=v
 | [],_,_=> .inl ⟨fun _ h=>(List.not_mem_nil h).elim,rfl⟩
 |(d,v)::l,f,r=>by
  rcases dI l (upd f d v) r with ⟨h1,h2⟩|⟨v',h1,h2⟩
  ·by_cases hd:r=d
   ·subst hd;exact .inr ⟨v,uX,by rw [cF,h2,aI]⟩
   refine .inl ⟨fun v' h=>?_,by rw [cF,h2,aH _ _ _ _ hd]⟩;rcases qE.1 h with h|h
   ·cases h;exact hd rfl
   exact h1 v' h
  exact .inr ⟨v',r9 _ h1,by rw [cF,h2]⟩
mutual
def A2:V→V→V
 | .t (.sl _),v=>nzV v
 | .agg cs,.agg vs=> .agg (aCs cs vs)
 | .tup cs,.tup vs=> .tup (aCs cs vs)
 | .junk,_=> .junk
 |_,v=>v
def aCs:List V→List V→List V
 |c::cs,v::vs=>A2 c v::aCs cs vs
 |_,vs=>vs
end
mutual
theorem aA6: ∀c v:V,VLe v (A2 c v)
 | .t (.sl _),v=>by simp only [A2];exact zS v
 | .agg cs,.agg vs=>by simp only [A2];exact VLe.agg (G8 cs vs)
 | .tup cs,.tup vs=>by simp only [A2];exact VLe.tup (G8 cs vs)
 | .junk,v=>by simp only [A2];exact VLe.junk v
 | .t (.bool _),v| .t (.int _ _),v| .t (.str _),v| .t .nilS,v| .t .nilP,v| .t .nilI,v| .t .nilF,v| .t .err,v=>by simp only [A2];exact VLe.refl v
 | .ref _ _,v| .tp _,v| .msl _ _ _ _ _,v| .eref _ _ _ _ _,v| .fn _ _,v=>by simp only [A2];exact VLe.refl v
 | .agg _,.t _| .agg _,.tup _| .agg _,.ref _ _| .agg _,.tp _| .agg _,.msl _ _ _ _ _| .agg _,.eref _ _ _ _ _| .agg _,.fn _ _| .agg _,.junk=>by simp only [A2];exact VLe.refl _
 | .tup _,.t _| .tup _,.agg _| .tup _,.ref _ _| .tup _,.tp _| .tup _,.msl _ _ _ _ _| .tup _,.eref _ _ _ _ _| .tup _,.fn _ _| .tup _,.junk=>by simp only [A2];exact VLe.refl _
theorem G8: ∀cs vs:List V,VsLe vs (aCs cs vs)
 |c::cs,v::vs=>by simp only [aCs];exact⟨aA6 c v,G8 cs vs⟩
 | [],vs=>by simp only [aCs];exact VsLe.refl vs
 |_::_,[]=>by simp only [aCs];exact trivial
end
def aKg:Option E→Option E→Option E
 |some (.cells cs),some (.cells vs)=>some (.cells (aCs cs vs))
 |some _,e=>e
 |none,_=>none
theorem aFy{c e:Option E}{x:E}(h:aKg c e=some x): ∃e0,e=some e0∧ELe e0 x:=by
 unfold aKg at h;split at h
 ·cases h;exact⟨_,rfl,G8 _ _⟩
 ·exact⟨x,h,ELe.refl x⟩
 cases h
def X5(s:S):List (Nat×V)→List V
 | []=>[]
 |(i,v)::l=>A2 v (s.t i)::X5 s l
def aAi(s:S):List (Nat×Option E)→List (Option E)
 | []=>[]
 |(k,e)::l=>aKg e (s.H k)::aAi s l
def vT{α:Type}:List (Nat×α)→List α
 | []=>[]
 |(_,v)::l=>v::vT l
theorem I5{s:S}: ∀{l:List (Nat×V)},X5 s l=vT l→ ∀i v,(i,v)∈l→VLe (s.t i) v
 |(i0,v0)::l,h,i,v,hm=>by
  simp only [X5,vT,List.cons.injEq] at h;rcases qE.1 hm with hm|hm
  ·cases hm;exact h.1▸aA6 _ _
  exact I5 h.2 i v hm
theorem M8{s:S}: ∀{l:List (Nat×Option E)},aAi s l=vT l→ ∀k e,(k,some e)∈l→ ∃e0,s.H k=some e0∧ELe e0 e
 |(k0,e0)::l,h,k,e,hm=>by
  simp only [aAi,vT,List.cons.injEq] at h;rcases qE.1 hm with hm|hm
  ·cases hm;exact aFy h.1
  exact M8 h.2 k e hm
def qW{α:Type}(ks:List Nat):List (Nat×α)→Bool
 | []=>true
 |(i,_)::l=>nV i ks&&qW ks l
theorem zV{α:Type}{ks:List Nat}: ∀{l:List (Nat×α)},qW ks l=true→ ∀i v,(i,v)∈l→i∈ks
 |(i0,v0)::l,h,i,v,hm=>by
  simp only [qW,Bool.and_eq_true] at h;rcases qE.1 hm with hm|hm
  ·cases hm;exact xJ h.1
  exact zV h.2 i v hm
def aHZ{α:Type}:List (Nat×α)→List Nat
 | []=>[]
 |(i,_)::l=>i::aHZ l
theorem aCn{α:Type}{i:Nat}: ∀{l:List (Nat×α)},i∈aHZ l→ ∃v,(i,v)∈l
 |(i0,v0)::l,h=>by
  simp only [aHZ,List.mem_cons] at h;rcases h with rfl|h
  ·exact⟨v0,uX⟩
  obtain⟨v,hv⟩:=aCn h;exact⟨v,r9 _ hv⟩
def aFq(ks:List Nat)(t:Nat→V):Nat→V:=fun i=>bif nV i ks then .junk else t i
def S.cl(s:S)(ks:List Nat)(ts:List (Nat×V))(hl:List (Nat×Option E))(ul:List (Nat×Bool)):S:={t:=cF (aFq ks s.t) ts,H:=cF s.H hl,u:=cF s.u ul}
theorem Rel.weak{K:Ctx}{β:Map}{s s':S}{a:Act}{w:World}(hr:Rel K β s a w)(hu:s'.u=s.u)(hH: ∀k e,s'.H k=some e→ ∃e0,s.H k=some e0∧ELe e0 e)(ht: ∀i,VLe (s.t i) (s'.t i)):Rel K β s' a w:=by
 have hown: ∀b,own K β s'.H b→own K β s.H b:=by
  rintro b (h|⟨id,h1,h2⟩)
  ·exact .inl h
  cases he:s'.H id with
  |none=>exact absurd he h1
  |some e=>
   obtain⟨e0,h3,_⟩:=hH id e he;exact .inr ⟨id,by rw [h3];simp,h2⟩
 refine {hr with low:= ?_,dom:= ?_,domn:= ?_,heap:= ?_,slots:= ?_}
 ·intro id h;rw [hu];exact hr.low id h
 ·intro id h;rw [hu] at h;exact hr.dom id h
 ·intro id b h;rw [hu] at h;exact hr.domn id b h
 ·intro id e he;obtain⟨e0,h1,h2⟩:=hH id e he;obtain⟨h3,h4⟩:=hr.heap id e0 h1;refine⟨by rw [hu];exact h3,?_⟩;exact(h2.re h4).mono (Ext.refl _ _) (fun b _=>hown b) (MLe.refl _) (fun _ h=>h) (Shaped.refl _ _) fun _ _=>rfl
 intro i;exact(ht i _ _ _ _ (hr.slots i)).mono (Ext.refl _ _) (fun b _=>hown b) (MLe.refl _) (Shaped.refl _ _)
theorem aNj{K:Ctx}{s:S}{e:Eff}{ks:List Nat}{ts:List (Nat×V)}{hl:List (Nat×Option E)}{ul:List (Nat×Bool)}(hu:e.us=ul)(hk:qW ks e.ts=true)(hh:qW (aHZ hl) e.hs=true)
  (ht:X5 (e.app s) ts=vT ts) (hH:aAi (e.app s) hl=vT hl):(e.app s).le K (s.cl ks ts hl ul):=by
 intro β a w hr;refine⟨β,hr.weak ?_ ?_ ?_⟩
 ·show cF s.u ul=cF s.u e.us;rw [hu]
 ·intro k x hx;have hx:cF s.H hl k=some x:=hx;rcases dI hl s.H k with ⟨h1,h2⟩|⟨v,h1,h2⟩
  ·rw [h2] at hx;refine⟨x,?_,ELe.refl x⟩;show cF s.H e.hs k=some x;rw [fW _ _ _ fun v hv=>?_]
   ·exact hx
   obtain⟨v',hv'⟩:=aCn (zV hh k v hv);exact h1 v' hv'
  rw [h2] at hx;subst hx;exact M8 hH k x h1
 intro i;show VLe _ (cF (aFq ks s.t) ts i);rcases dI ts (aFq ks s.t) i with ⟨h1,h2⟩|⟨v,h1,h2⟩
 ·rw [h2];unfold aFq;cases hb:nV i ks with
  |true=>exact VLe.junk _
  |false=>
   show VLe (cF s.t e.ts i) (s.t i);rw [fW _ _ _ (fun v hv=>by
    have hm:=zV hk i v hv
    have: ∀{l:List Nat},i∈l→nV i l=true:=by
     intro l;induction l with
     |nil=>intro h;cases h
     |cons x l ih=>
      intro h;simp only [nV];rcases qE.1 h with rfl|h
      ·simp
      cases Nat.beq x i with
      |true=>rfl
      |false=>exact ih h
    rw [this hm] at hb;cases hb)]
   exact VLe.refl _
 rw [h2];exact I5 ht i v h1
theorem aBS{α:Type}(f:Nat→α)(i:Nat):upd f i (f i)=f:=by
 funext j;by_cases hj:j=i
 ·subst hj;rw [aI]
 rw [aH _ _ _ _ hj]
def Map.move(β:Map)(k k' gen:Nat)(q:Option Nat):Map:=
 ⟨fun i=>bif Nat.beq i k' then some (q,1) else bif Nat.beq i k then some (none,gen+1) else β i,fun i b=>(i=k'∧β.n k b)∨(i≠k'∧i≠k∧β.n i b)⟩
theorem aEP{i k:Nat}(h:i≠k):Nat.beq i k=false:=by
 cases hh:Nat.beq i k with
 |false=>rfl
 |true=>exact absurd (fV hh) h
theorem L1(β:Map)(k k' gen:Nat)(q:Option Nat):β.move k k' gen q k'=some (q,1):=by simp [Map.move]
theorem L0(β:Map)(k k' gen:Nat)(q:Option Nat)(h:k≠k'):β.move k k' gen q k=some (none,gen+1):=by simp [Map.move,aEP h]
theorem v7(β:Map)(k k' gen:Nat)(q:Option Nat)(id:Nat)(h:id≠k)(h':id≠k'):β.move k k' gen q id=β id:=by simp [Map.move,aEP h,aEP h']
theorem aHF(β:Map)(k k' gen:Nat)(q:Option Nat)(id b:Nat)(h:id≠k)(h':id≠k'):(β.move k k' gen q).n id b↔β.n id b:=by simp [Map.move,h,h']
theorem aFk{β:Map}{k k' gen:Nat}{q:Option Nat}(hne:k≠k')(hq:β k=some (q,gen)){id b:Nat}(h:At (β.move k k' gen q) id b):(id=k'∧At β k b)∨(id≠k∧id≠k'∧At β id b):=by
 rcases h with ⟨g,h⟩|⟨rfl,h⟩|⟨h1,h2,h⟩
 ·by_cases h1:id=k'
  ·subst h1;rw [L1] at h;cases h;exact .inl ⟨rfl,.inl ⟨gen,hq⟩⟩
  by_cases h2:id=k
  ·subst h2;rw [L0 _ _ _ _ _ hne] at h;cases h
  rw [v7 _ _ _ _ _ _ h2 h1] at h;exact .inr ⟨h2,h1,.inl ⟨g,h⟩⟩
 ·exact .inl ⟨rfl,.inr h⟩
 exact .inr ⟨h2,h1,.inr h⟩
theorem aEV{K:Ctx}{s:S}(i k k' gen size off len:Nat){e:TypeId}{rows:List (List T)}(hk0:Nat.ble K.n0 k=true)(hne:k≠k')(hi:s.t i= .msl k gen size off len)(hk:s.H k=some (.arr e gen size rows))(hu:s.u k'=false):
  s.le K {t:=upd s.t i (.msl k' 1 size off len),H:=upd (upd s.H k none) k' (some (.arr e 1 size rows)),u:=upd s.u k' true}:=by
 intro β a w h;have hn0:=rZ hk0;obtain⟨q,hq⟩:=gG (h.heap k _ hk).2;have hg1:=(h.heap k _ hk).2.1;have hku:=(h.heap k _ hk).1;have hd:=h.dom k' hu;have hk'0:K.n0≤k':=by
  apply Nat.le_of_not_lt;intro hlt;rw [h.low k' hlt] at hu;cases hu
 let β':=β.move k k' gen q;have b1:β' k'=some (q,1):=L1 _ _ _ _ _;have b2:β' k=some (none,gen+1):=L0 _ _ _ _ _ hne;have b3: ∀id,id≠k→id≠k'→β' id=β id:=fun id h1 h2=>v7 _ _ _ _ _ _ h1 h2;have hinv: ∀id b,At β' id b→(id=k'∧At β k b)∨(id≠k∧id≠k'∧At β id b):=by
  intro id b hb;exact aFk hne hq hb
 have hβ:MLe β β':=by
  intro id q2 g hx;by_cases h2:id=k
  ·subst h2;rw [hq] at hx;cases hx;exact .inr ⟨hg1,none,gen+1,b2,vAV _⟩
  have h1:id≠k':=by intro e;subst e;rw [hd] at hx;cases hx
  exact .inl (by rw [b3 id h2 h1];exact hx)
 have hown: ∀b,own K β' (upd (upd s.H k none) k' (some (.arr e 1 size rows))) b→own K β s.H b:=by
  rintro b (hx|⟨id,h1,h2⟩)
  ·exact .inl hx
  rcases hinv id b h2 with ⟨rfl,h3⟩|⟨h3,h4,h5⟩
  ·exact .inr ⟨k,by rw [hk];simp,h3⟩
  rw [aH _ _ _ _ h4,aH _ _ _ _ h3] at h1;exact .inr ⟨id,h1,h5⟩
 refine⟨β',{h with base:= ?_,low:= ?_,dom:= ?_,domn:= ?_,inj:= ?_,fresh:= ?_,heap:= ?_,slots:= ?_}⟩
 ·exact h.base.keep fun id hid=>b3 id (by omega) (by omega)
 ·intro id hid;show upd s.u k' true id=true;rw [aH _ _ _ _ (by omega)];exact h.low id hid
 ·intro id hid;have hid':upd s.u k' true id=false:=hid;by_cases h1:id=k'
  ·subst h1;rw [aI] at hid';cases hid'
  rw [aH _ _ _ _ h1] at hid';rw [b3 id (by intro e;subst e;rw [hku] at hid';cases hid') h1];exact h.dom id hid'
 ·intro id b hid hb;have hid':upd s.u k' true id=false:=hid;rcases hb with ⟨h1,_⟩|⟨h1,_,hb⟩
  ·subst h1;rw [aI] at hid';cases hid'
  rw [aH _ _ _ _ h1] at hid';exact h.domn id b hid' hb
 ·intro id id' b h1 h2;rcases hinv id b h1 with ⟨rfl,h3⟩|⟨h3,h4,h5⟩<;>rcases hinv id' b h2 with ⟨e2,h6⟩|⟨h6,h7,h8⟩
  ·exact e2.symm
  ·exact absurd (h.inj _ _ b h8 h3) h6
  ·subst e2;exact absurd (h.inj _ _ b h5 h6) h3
  exact h.inj _ _ b h5 h8
 ·intro id b hb;rcases hinv id b hb with ⟨rfl,h3⟩|⟨h3,h4,h5⟩
  ·refine⟨?_,(h.fresh _ _ h3).2⟩;exact(h.fresh _ _ h3).1
  exact h.fresh id b h5
 ·intro id e' he';have he':upd (upd s.H k none) k' (some (.arr e 1 size rows)) id=some e':=he';show upd s.u k' true id=true∧RE β' w (own K β' (upd (upd s.H k none) k' (some (.arr e 1 size rows)))) id e';by_cases h1:id=k'
  ·subst h1;rw [aI] at he';cases he';refine⟨aI _ _ _,kF _,?_⟩;rcases(h.heap k _ hk).2.2 with ⟨a1,a2⟩|⟨b,us,a1,a2,a3,a4,a5⟩
   ·rw [hq] at a1;cases a1;exact .inl ⟨b1,a2⟩
   rw [hq] at a1;cases a1;exact .inr ⟨b,us,b1,a2,a3,a4,fun i j row x u c1 c2 c3=>(a5 i j row x u c1 c2 c3).mono (Ext.refl _ _) fun b _=>hown b⟩
  rw [aH _ _ _ _ h1] at he'⊢;by_cases h2:id=k
  ·subst h2;rw [aI] at he';cases he'
  rw [aH _ _ _ _ h2] at he';obtain⟨h3,h4⟩:=h.heap id e' he';exact⟨h3,h4.mono (Ext.refl _ _) (fun b _=>hown b) hβ (fun x hx=>by rw [b3 id h2 h1];exact hx) (Shaped.refl _ _) (fun _ _=>rfl) fun b=>aHF _ _ _ _ _ _ _ h2 h1⟩
 intro j;show RV β' w _ (upd s.t i (.msl k' 1 size off len) j) _;by_cases hj:j=i
 ·subst hj;rw [aI];have h1:=h.slots j;rw [hi] at h1;generalize a.tmps.getD j undef=v at h1;rcases bP h1 hq with ⟨cap,b,n,ty',rfl,hb0,hw,hs,hn',hl,hm⟩|⟨hb0,rfl,rfl,rfl⟩
  ·subst hb0;exact .msl k' 1 size off len cap b n ty' (kF _) b1 hw hs hn' hl hm
  subst hb0;exact .msl0 k' 1 size (kF _) b1
 rw [aH _ _ _ _ hj];exact(h.slots j).mono (Ext.refl _ _) (fun b _=>hown b) hβ (Shaped.refl _ _)
theorem RE.set{β:Map}{w:World}{X:Nat→Prop}{b:Nat}{cs:List V}{j:Nat}{c c':V}(h:RE β w X b (.cells cs))(hj:cs[j]? =some c)(hc: ∀u,RV β w X c u→RV β w X c' u):RE β w X b (.cells (cs.set j c')):=by
 obtain⟨b',us,ty,h1,h2,h3,h4⟩:=h;refine⟨b',us,ty,h1,h2,by simpa using h3,fun i v u hv hu=>?_⟩;by_cases hi:i=j
 ·subst hi;have hlt:=(cC.1 hj).1;rw [vAu hlt] at hv;cases hv;exact hc u (h4 i c u hj hu)
 rw [vAK (vBK hi)] at hv;exact h4 i v u hv hu
theorem aBz{K:Ctx}{s:S}(b k i j gen size:Nat){e:TypeId}{rows:List (List T)}{Γ:List Nd}{m g0:Nat}{rows0:List (List T)}{hs:List (Nat×Nat×V)}(hk0:Nat.ble K.n0 k=true)(hbk:b≠k)
  (hb:s.H b=some (.tree Γ m g0 rows0 ((i,j,.msl k gen size 0 rows.length)::hs))) (hk:s.H k=some (.arr e gen size rows)):
  s.le K {t:=s.t,H:=upd (upd s.H k none) b (some (.tree Γ m g0 rows0 ((i,j,.t (.sl rows))::hs))),u:=s.u}:=by
 intro β a w h;have hn0:=rZ hk0;generalize hN:(some (.tree Γ m g0 rows0 ((i,j,.t (.sl rows))::hs)):Option E)=N;have hNn:N≠none:=by subst hN;simp
 have hown: ∀b',own K β (upd (upd s.H k none) b N) b'→own K β s.H b':=by
  rintro b' (hx|⟨id,h1,h2⟩)
  ·exact .inl hx
  by_cases h3:id=b
  ·subst h3;exact .inr ⟨id,by rw [hb];simp,h2⟩
  rw [aH _ _ _ _ h3] at h1;by_cases h4:id=k
  ·subst h4;rw [aI] at h1;exact absurd rfl h1
  rw [aH _ _ _ _ h4] at h1;exact .inr ⟨id,h1,h2⟩
 have hnot: ∀b',At β k b'→ ¬own K β (upd (upd s.H k none) b N) b':=by
  rintro b' hb' (hx|⟨id,h1,h2⟩)
  ·obtain⟨x1,x2⟩:=h.xold b' hx;rcases(h.fresh k b' hb').1 with hlt|hge
   ·exact x2 hlt
   omega
  have:=h.inj _ _ _ h2 hb';subst this;rw [aH _ _ _ _ (vBK hbk),aI] at h1;exact h1 rfl
 have hre:=(h.heap k _ hk).2;refine⟨β,{h with heap:= ?_,slots:= ?_}⟩
 ·intro id e' he';have he':upd (upd s.H k none) b N id=some e':=he';by_cases h3:id=b
  ·subst h3;rw [aI] at he';subst he';cases hN;obtain⟨h4,h5⟩:=h.heap id _ hb;refine⟨h4,h5.1,?_⟩;rcases h5.2 with ⟨a1,a2,a3⟩|⟨b',us,B,a1,a2,a3,a4,a5,a6,a7,a8⟩
   ·exact .inl ⟨a1,a2,a3⟩
   refine .inr ⟨b',us,B,a1,a2,a3,a4,fun i' j' row x u b1 b2 b3=>?_,a6,a7,a8⟩;have c5:=a5 i' j' row x u b1 b2 b3;refine⟨fun v hv=>?_,fun hno=>?_⟩
   ·rcases qE.1 hv with e|hv
    ·simp only [Prod.mk.injEq] at e;obtain⟨rfl,rfl,rfl⟩:=e;obtain⟨d1,d2⟩:=c5.1 _ uX;exact⟨.t _ _ (hre.read d1 hown hnot),d2⟩
    obtain⟨d1,d2⟩:=c5.1 v (r9 _ hv);exact⟨d1.mono (Ext.refl _ _) (fun b _=>hown b) (MLe.refl _) (Shaped.refl _ _),d2⟩
   have hne: ¬(i'=i∧j'=j):=by rintro⟨rfl,rfl⟩;exact hno _ uX
   refine(c5.2 fun v hv=>?_).mono (Ext.refl _ _) (fun b _=>hown b) fun _ _=>rfl;rcases qE.1 hv with e|hv
   ·simp only [Prod.mk.injEq] at e;exact hne ⟨e.1,e.2.1⟩
   exact hno v (r9 _ hv)
  rw [aH _ _ _ _ h3] at he';by_cases h4:id=k
  ·subst h4;rw [aI] at he';cases he'
  rw [aH _ _ _ _ h4] at he';obtain⟨h5,h6⟩:=h.heap id e' he';exact⟨h5,h6.mono (Ext.refl _ _) (fun b _=>hown b) (MLe.refl _) (fun _ h=>h) (Shaped.refl _ _) fun _ _=>rfl⟩
 intro i;exact(h.slots i).mono (Ext.refl _ _) (fun b _=>hown b) (MLe.refl _) (Shaped.refl _ _)
theorem aBB{K:Ctx}{s:S}(b j k gen size:Nat){e:TypeId}{rows:List (List T)}{cs:List V}(hk0:Nat.ble K.n0 k=true)(hb:s.H b=some (.cells cs))(hj:cs[j]? =some (.msl k gen size 0 rows.length))(hk:s.H k=some (.arr e gen size rows)):
  s.le K {t:=s.t,H:=upd (upd s.H k none) b (some (.cells (cs.set j (.t (.sl rows))))),u:=s.u}:=by
 intro β a w h;have hn0:=rZ hk0;have hbk:b≠k:=by intro e;subst e;rw [hb] at hk;cases hk
 have hown: ∀b',own K β (upd (upd s.H k none) b (some (.cells (cs.set j (.t (.sl rows)))))) b'→own K β s.H b':=by
  rintro b' (hx|⟨id,h1,h2⟩)
  ·exact .inl hx
  by_cases h3:id=b
  ·subst h3;exact .inr ⟨id,by rw [hb];simp,h2⟩
  rw [aH _ _ _ _ h3] at h1;by_cases h4:id=k
  ·subst h4;rw [aI] at h1;exact absurd rfl h1
  rw [aH _ _ _ _ h4] at h1;exact .inr ⟨id,h1,h2⟩
 have hnot: ∀b',At β k b'→ ¬own K β (upd (upd s.H k none) b (some (.cells (cs.set j (.t (.sl rows)))))) b':=by
  rintro b' hb' (hx|⟨id,h1,h2⟩)
  ·obtain⟨x1,x2⟩:=h.xold b' hx;rcases(h.fresh k b' hb').1 with hlt|hge
   ·exact x2 hlt
   omega
  have:=h.inj _ _ _ h2 hb';subst this;rw [aH _ _ _ _ (vBK hbk),aI] at h1;exact h1 rfl
 have hre:=(h.heap k _ hk).2;refine⟨β,{h with heap:= ?_,slots:= ?_}⟩
 ·intro id e' he';have he':upd (upd s.H k none) b (some (.cells (cs.set j (.t (.sl rows))))) id=some e':=he';by_cases h3:id=b
  ·subst h3;rw [aI] at he';cases he';obtain⟨h4,h5⟩:=h.heap id _ hb;refine⟨h4,?_⟩;obtain⟨b',us,ty,g1,g2,g3,g4⟩:=h5;refine⟨b',us,ty,g1,g2,by simpa using g3,fun i v u hv hu=>?_⟩;by_cases hi:i=j
   ·subst hi;have hlt:=(cC.1 hj).1;rw [vAu hlt] at hv;cases hv;exact .t _ _ (hre.read (g4 i _ u hj hu) hown hnot)
   rw [vAK (vBK hi)] at hv;exact(g4 i v u hv hu).mono (Ext.refl _ _) (fun b _=>hown b) (MLe.refl _) (Shaped.refl _ _)
  rw [aH _ _ _ _ h3] at he';by_cases h4:id=k
  ·subst h4;rw [aI] at he';cases he'
  rw [aH _ _ _ _ h4] at he';obtain⟨h5,h6⟩:=h.heap id e' he';exact⟨h5,h6.mono (Ext.refl _ _) (fun b _=>hown b) (MLe.refl _) (fun _ h=>h) (Shaped.refl _ _) fun _ _=>rfl⟩
 intro i;exact(h.slots i).mono (Ext.refl _ _) (fun b _=>hown b) (MLe.refl _) (Shaped.refl _ _)
theorem aGy{K:Ctx}{s:S}{size:Nat}(b j k:Nat)(e:TypeId){cs:List V}(hk:s.u k=false)(hb:s.H b=some (.cells cs))(hj:cs[j]? =some (.t .nilS)):
  s.le K {t:=s.t,H:=upd (upd s.H k (some (.arr e 1 size []))) b (some (.cells (cs.set j (.msl k 1 size 0 0)))),u:=upd s.u k true}:=by
 intro β a w h;have hd:=h.dom k hk;have hbk:b≠k:=by intro e;subst e;have:=(h.heap b _ hb).1;rw [this] at hk;cases hk
 have hβ0: ∀id x,β id=some x→β.put k (some (none,1)) id=some x:=fun id x hx=>by
  rw [aV _ _ _ _ (by intro e;subst e;rw [hd] at hx;cases hx)];exact hx
 have hβ:=MLe.of hβ0;have hinv: ∀id b',At (β.put k (some (none,1))) id b'→id≠k∧At β id b':=fun id b' hx=>by
  by_cases hi:id=k
  ·subst hi;rcases hx with ⟨g,hx⟩|hx
   ·rw [cW] at hx;cases hx
   exact absurd hx (h.domn _ _ hk)
  refine⟨hi,?_⟩;rcases hx with ⟨g,hx⟩|hx
  ·rw [aV _ _ _ _ hi] at hx;exact .inl ⟨g,hx⟩
  exact .inr hx
 have hown: ∀b',own K (β.put k (some (none,1))) (upd (upd s.H k (some (.arr e 1 size []))) b (some (.cells (cs.set j (.msl k 1 size 0 0))))) b'→own K β s.H b':=by
  rintro b' (hx|⟨id,h1,h2⟩)
  ·exact .inl hx
  obtain⟨hne,h3⟩:=hinv id b' h2;by_cases h4:id=b
  ·subst h4;exact .inr ⟨id,by rw [hb];simp,h3⟩
  rw [aH _ _ _ _ h4,aH _ _ _ _ hne] at h1;exact .inr ⟨id,h1,h3⟩
 have hrv: ∀v u,RV β w (own K β s.H) v u→RV (β.put k (some (none,1))) w (own K (β.put k (some (none,1))) (upd (upd s.H k (some (.arr e 1 size []))) b (some (.cells (cs.set j (.msl k 1 size 0 0)))))) v u:=
  fun v u hv=>hv.mono (Ext.refl _ _) (fun b _=>hown b) hβ (Shaped.refl _ _)
 refine⟨β.put k (some (none,1)),{h with base:= ?_,low:= ?_,dom:= ?_,domn:= ?_,inj:= ?_,fresh:= ?_,heap:= ?_,slots:=fun i=>hrv _ _ (h.slots i)}⟩
 ·refine h.base.keep fun id hid=>?_
  have:=h.low id hid;rw [aV _ _ _ _ (by intro e;subst e;rw [hk] at this;cases this)]
 ·intro id hid;show upd s.u k true id=true;by_cases e:id=k
  ·subst e;exact aI _ _ _
  rw [aH _ _ _ _ e];exact h.low id hid
 ·intro id hid;have hid':upd s.u k true id=false:=hid;by_cases e:id=k
  ·subst e;rw [aI] at hid';cases hid'
  rw [aH _ _ _ _ e] at hid';rw [aV _ _ _ _ e];exact h.dom id hid'
 ·intro id b hid;have hid':upd s.u k true id=false:=hid;by_cases e:id=k
  ·subst e;rw [aI] at hid';cases hid'
  rw [aH _ _ _ _ e] at hid';exact h.domn id b hid'
 ·intro id id' b' h1 h2;exact h.inj id id' b' (hinv id b' h1).2 (hinv id' b' h2).2
 ·intro id b' hx;exact h.fresh id b' (hinv id b' hx).2
 intro id e' he';have he':upd (upd s.H k (some (.arr e 1 size []))) b (some (.cells (cs.set j (.msl k 1 size 0 0)))) id=some e':=he';show upd s.u k true id=true∧RE _ _ (own K _ (upd (upd s.H k (some (.arr e 1 size []))) b (some (.cells (cs.set j (.msl k 1 size 0 0)))))) id e';by_cases h3:id=b
 ·subst h3;rw [aI] at he';cases he';rw [aH _ _ _ _ hbk];obtain⟨h4,b',us,ty,g1,g2,g3,g4⟩:=h.heap id _ hb;refine⟨h4,b',us,ty,hβ0 _ _ g1,g2,by simpa using g3,fun i v u hv hu=>?_⟩;by_cases hi:i=j
  ·subst hi;have hlt:=(cC.1 hj).1;rw [vAu hlt] at hv;cases hv;have h1:=g4 i _ u hj hu;cases h1 with
   |t _ _ h2=>cases h2;exact .msl0 k 1 size (kF _) (aI _ _ _)
  rw [vAK (vBK hi)] at hv;exact hrv _ _ (g4 i v u hv hu)
 rw [aH _ _ _ _ h3] at he';by_cases hi:id=k
 ·subst hi;rw [aI] at he';cases he';exact⟨aI _ _ _,kF _,Or.inl ⟨aI _ _ _,rfl⟩⟩
 rw [aH _ _ _ _ hi] at he';obtain⟨h1,h2⟩:=h.heap id e' he';exact⟨by rw [aH _ _ _ _ hi];exact h1,h2.mono (Ext.refl _ _) (fun b _=>hown b) hβ (hβ0 id) (Shaped.refl _ _) fun _ _=>rfl⟩
def noK(k:Nat):Nat→Bool:=fun id=>bif Nat.beq id k then false else true
def O1(k:Nat)(v:V):V:=bif v.ok (noK k) then v else .junk
def aEo(k:Nat):E→Option E
 | .cells cs=>bif f8 (noK k) cs then some (.cells cs) else none
 | .tree Γ m gen rows hs=>bif aF1 (noK k) hs then some (.tree Γ m gen rows hs) else none
 |e=>some e
theorem aAY{k id:Nat}(h:id≠k):noK k id=true:=by
 have:Nat.beq id k=false:=by cases hh:Nat.beq id k with
  |false=>rfl
  |true=>exact absurd (fV hh) h
 simp [noK,this]
theorem K9{k id:Nat}(h:noK k id=true):id≠k:=by intro e;subst e;simp [noK] at h
def E.setG(n:Nat):E→E
 | .arr e _ z r=> .arr e n z r
 | .tree Γ m _ r hs=> .tree Γ m n r hs
 |e=>e
abbrev E.re1:E→E:=E.setG 1
def E.hol:E→List (Nat×Nat×V)
 | .tree _ _ _ _ hs=>hs
 |_=>[]
theorem RE.setG{β β':Map}{w:World}{X X':Nat→Prop}{k k' g n:Nat}{e:E}{q:Option Nat}(h:RE β w X k e)(hn1:1≤n)(hg:e.gen=some g)(hq:β k=some (q,g))(hb:β' k'=some (q,n))(hn: ∀b,β'.n k' b↔β.n k b)(hX: ∀b,X' b→X b)
  (hm: ∀i j v,(i,j,v)∈e.hol→ ∀u,RV β w X v u→RV β' w X' v u):RE β' w X' k' (e.setG n):=by
 cases e with
 |cells=>cases hg
 |arr ty g' size rows=>
  cases hg;refine⟨hn1,?_⟩;rcases h.2 with ⟨a1,a2⟩|⟨b,us,a1,a2,a3,a4,a5⟩
  ·rw [hq] at a1;cases a1;exact .inl ⟨hb,a2⟩
  rw [hq] at a1;cases a1;exact .inr ⟨b,us,hb,a2,a3,a4,fun i j row x u c1 c2 c3=>(a5 i j row x u c1 c2 c3).mono (Ext.refl _ _) fun b _=>hX b⟩
 |tree Γ m g' rows hs=>
  cases hg;refine⟨hn1,?_⟩;rcases h.2 with ⟨a1,a2,a0⟩|⟨b,us,B,a1,a2,a3,a4,a5,a6,a7,a8⟩
  ·rw [hq] at a1;cases a1;exact .inl ⟨hb,a2,fun c hc=>a0 c ((hn c).1 hc)⟩
  rw [hq] at a1;cases a1;exact .inr ⟨b,us,B,hb,a2,a3,a4,fun i j row x u c1 c2 c3=>⟨fun v hv=>⟨hm i j v hv _ ((a5 i j row x u c1 c2 c3).1 v hv).1,((a5 i j row x u c1 c2 c3).1 v hv).2⟩,fun hno=>((a5 i j row x u c1 c2 c3).2 hno).mono (Ext.refl _ _) (fun c _=>hX c) fun _ _=>rfl⟩,a6,a7,fun c=>(hn c).trans (a8 c)⟩
theorem Rel.regen{K:Ctx}{β:Map}{s s':S}{a:Act}{w:World}(h:Rel K β s a w)(k g gen:Nat){e:E}{q0:Option Nat}(hk:s.H k=some e)(hg:e.gen=some gen)(hcl:e.hol=[])(hlt:k<K.n0)(h0:K.β0 k=some (q0,g))
  (hu:s'.u=s.u) (hHk:s'.H k=some (e.setG (g+1))) (q:Option Nat) (hq:β k=some (q,gen))
  (hH: ∀id x,id≠k→s'.H id=some x→s.H id≠none∧ ∀X,(∀b,X b→own K β s.H b)→RE (β.put k (some (q,g+1))) w X id x)
  (ht: ∀i,∀X,(∀b,X b→own K β s.H b)→RV (β.put k (some (q,g+1))) w X (s'.t i) (a.tmps.getD i undef)):Rel K (β.put k (some (q,g+1))) s' a w:=by
 have hg0:1≤gen:=(q9 (h.heap k _ hk).2 hg).1;have hku:=(h.heap k _ hk).1;have hgg:1≤g∧ ∀b,q=some b→q0=some b∨K.w0.heap.size≤b:=by
  rcases h.base k hlt with e1|⟨q1,g1,q2,g2,a1,a2,a3,a4,a5⟩
  ·rw [hq,h0] at e1;cases e1;exact⟨hg0,fun b hb=> .inl hb⟩
  rw [h0] at a1;cases a1;rw [hq] at a3;cases a3;exact⟨a2,a5⟩
 have hinv: ∀id b,At (β.put k (some (q,g+1))) id b→At β id b:=fun id b hb=>by
  rcases hb with ⟨g',hb⟩|hb
  ·by_cases hi:id=k
   ·subst hi;rw [cW] at hb;cases hb;exact .inl ⟨gen,hq⟩
   rw [aV _ _ _ _ hi] at hb;exact .inl ⟨g',hb⟩
  exact .inr hb
 have hown: ∀b,own K (β.put k (some (q,g+1))) s'.H b→own K β s.H b:=by
  rintro b (hx|⟨id,h1,h2⟩)
  ·exact .inl hx
  refine .inr ⟨id,?_,hinv id b h2⟩;by_cases hi:id=k
  ·subst hi;rw [hk];simp
  cases hx:s'.H id with
  |none=>exact absurd hx h1
  |some x=>exact(hH id x hi hx).1
 refine {h with base:= ?_,low:= ?_,dom:= ?_,domn:=fun id b hid=>h.domn id b (hu▸hid),inj:= ?_,fresh:=fun id b hb=>h.fresh id b (hinv id b hb),heap:= ?_,slots:=fun i=>ht i _ hown}
 ·intro id hid;by_cases hi:id=k
  ·subst hi;exact .inr ⟨q0,g,q,g+1,h0,hgg.1,aI _ _ _,vAV _,hgg.2⟩
  rw [aV _ _ _ _ hi];exact h.base id hid
 ·intro id hid;rw [hu];exact h.low id hid
 ·intro id hid;rw [hu] at hid;rw [aV _ _ _ _ (by intro e;subst e;rw [hku] at hid;cases hid)];exact h.dom id hid
 ·intro id id' b h1 h2;exact h.inj id id' b (hinv id b h1) (hinv id' b h2)
 intro id x hx;by_cases hi:id=k
 ·subst hi;rw [hHk] at hx;cases hx;exact⟨by rw [hu];exact hku,(h.heap id _ hk).2.setG (by omega) hg hq (aI _ _ _) (fun _=>Iff.rfl) hown fun i j v hv=>by rw [hcl] at hv;cases hv⟩
 obtain⟨h1,h2⟩:=hH id x hi hx;refine⟨?_,h2 _ hown⟩;rw [hu];cases hy:s.H id with
 |none=>exact absurd hy h1
 |some y=>exact(h.heap id y hy).1
theorem Z1{β:Map}{w:World}{X X':Nat→Prop}{k gen size off len g:Nat}{u:Value}{q:Option Nat}(hq:β k=some (q,gen))(h:RV β w X (.msl k gen size off len) u):RV (β.put k (some (q,g+1))) w X' (.msl k (g+1) size off len) u:=by
 rcases bP h hq with ⟨cap,b,n,ty',rfl,hb0,hw,hs,hn',hl,hm⟩|⟨hb0,rfl,rfl,rfl⟩
 ·subst hb0;exact .msl k (g+1) size off len cap b n ty' (by omega) (aI _ _ _) hw hs hn' hl hm
 subst hb0;exact .msl0 k (g+1) size (by omega) (aI _ _ _)
theorem aCy{β:Map}{w:World}{X X':Nat→Prop}{k g:Nat}{q:Option Nat}{v:V}{u:Value}(h:RV β w X v u)(hX: ∀b,X' b→X b):RV (β.put k (some (q,g+1))) w X' (O1 k v) u:=by
 unfold O1;cases hb:v.ok (noK k) with
 |false=>exact .junk _
 |true=>exact h.under hX (fun id hid=>aV _ _ _ _ (K9 hid)) hb
theorem aAs{β:Map}{w:World}{X X':Nat→Prop}{k g id:Nat}{q:Option Nat}{x y:E}(h:RE β w X id x)(hX: ∀b,X' b→X b)(hi:id≠k)(hy:aEo k x=some y):RE (β.put k (some (q,g+1))) w X' id y:=by
 unfold aEo at hy;split at hy
 ·rename_i cs;cases hb:f8 (noK k) cs with
  |false=>rw [hb] at hy;cases hy
  |true=>rw [hb] at hy;cases hy;exact h.under hX (fun id hid=>aV _ _ _ _ (K9 hid)) (aAY hi) hb
 ·rename_i hs;cases hb:aF1 (noK k) hs with
  |false=>rw [hb] at hy;cases hy
  |true=>rw [hb] at hy;cases hy;exact h.under hX (fun id hid=>aV _ _ _ _ (K9 hid)) (aAY hi) hb
 cases hy;refine h.under hX (u:=noK k) (fun id hid=>aV _ _ _ _ (K9 hid)) (aAY hi) ?_;cases x with
 |cells cs=>rename_i hn _;exact absurd rfl (hn cs)
 |arr=>rfl
 |tree Γ m gen rows hs=>rename_i _ hn;exact absurd rfl (hn Γ m gen rows hs)
def C7(k:Nat)(H:Nat→Option E):Nat→Option E:=fun id=>match H id with
 |some e=>aEo k e
 |none=>none
theorem tS{K:Ctx}{s:S}(i k g gen size off len:Nat){e:E}(hn:Nat.blt k K.n0=true)(hi:s.t i= .msl k gen size off len)(hk:s.H k=some e)(hg:e.gen=some gen)(hcl:e.hol=[])(h0: ∃q,K.β0 k=some (q,g)):
  s.le K {t:=upd (fun j=>O1 k (s.t j)) i (.msl k (g+1) size off len),H:=upd (C7 k s.H) k (some (e.setG (g+1))),u:=s.u}:=by
 intro β a w h;obtain⟨q0,h0⟩:=h0;obtain⟨_,q,hq⟩:=q9 (h.heap k _ hk).2 hg;refine⟨_,h.regen (s':={t:=upd (fun j=>O1 k (s.t j)) i (.msl k (g+1) size off len),H:=upd (C7 k s.H) k (some (e.setG (g+1))),u:=s.u}) k g gen hk hg hcl (by simpa [Nat.blt_eq] using hn) h0 rfl (aI _ _ _) q hq ?_ ?_⟩
 ·intro id x hne hx;have hx:upd (C7 k s.H) k (some (e.setG (g+1))) id=some x:=hx;rw [aH _ _ _ _ hne] at hx;unfold C7 at hx;cases hy:s.H id with
  |none=>rw [hy] at hx;cases hx
  |some y=>
   rw [hy] at hx;exact⟨by simp,fun X hX=>aAs (h.heap id y hy).2 hX hne hx⟩
 intro j X hX;show RV _ w X (upd (fun j=>O1 k (s.t j)) i (.msl k (g+1) size off len) j) _;by_cases hj:j=i
 ·subst hj;rw [aI];exact Z1 hq (hi▸h.slots j)
 rw [aH _ _ _ _ hj];exact aCy (h.slots j) hX
theorem tT{K:Ctx}{s:S}(b j k g gen size off len:Nat){e:E}{cs:List V}(hn:Nat.blt k K.n0=true)(hb:s.H b=some (.cells cs))(hj:cs[j]? =some (.msl k gen size off len))(hok:f8 (noK k) (cs.set j .junk)=true)
  (hk:s.H k=some e) (hg:e.gen=some gen) (hcl:e.hol=[]) (h0: ∃q,K.β0 k=some (q,g)):
  s.le K {t:=fun j=>O1 k (s.t j),H:=upd (upd (C7 k s.H) k (some (e.setG (g+1)))) b (some (.cells (cs.set j (.msl k (g+1) size off len)))),u:=s.u}:=by
 intro β a w h;obtain⟨q0,h0⟩:=h0;obtain⟨_,q,hq⟩:=q9 (h.heap k _ hk).2 hg;have hbk:b≠k:=by intro e';subst e';rw [hb] at hk;cases hk;cases hg
 refine⟨_,h.regen (s':={t:=fun j=>O1 k (s.t j),H:=upd (upd (C7 k s.H) k (some (e.setG (g+1)))) b (some (.cells (cs.set j (.msl k (g+1) size off len)))),u:=s.u}) k g gen hk hg hcl (by simpa [Nat.blt_eq] using hn) h0 rfl (by show upd _ b _ k=_;rw [aH _ _ _ _ (vBK hbk),aI]) q hq ?_ ?_⟩
 ·intro id x hne hx;have hx:upd (upd (C7 k s.H) k (some (e.setG (g+1)))) b (some (.cells (cs.set j (.msl k (g+1) size off len)))) id=some x:=hx;by_cases hib:id=b
  ·subst hib;rw [aI] at hx;cases hx;refine⟨by rw [hb];simp,fun X hX=>?_⟩;have h5:=(h.heap id _ hb).2;have h6:RE β w (own K β s.H) id (.cells (cs.set j .junk)):=h5.set hj fun u _=> .junk u;have h7:=h6.under (u:=noK k) (β':=β.put k (some (q,g+1))) hX (fun id hid=>aV _ _ _ _ (K9 hid)) (aAY hbk) hok;obtain⟨b',us,ty,g1,g2,g3,g4⟩:=h7;obtain⟨b2,us2,ty2,f1,f2,f3,f4⟩:=h5;rw [aV _ _ _ _ hbk,f1] at g1;cases g1;rw [f2] at g2;cases g2;refine⟨_,_,_,by rw [aV _ _ _ _ hbk];exact f1,f2,by simpa using f3,fun i v u hv hu=>?_⟩;by_cases hi:i=j
   ·subst hi;have hlt:=(cC.1 hj).1;rw [vAu hlt] at hv;cases hv;exact Z1 hq (f4 i _ u hj hu)
   rw [vAK (vBK hi)] at hv;exact g4 i v u (by rw [vAK (vBK hi)];exact hv) hu
  rw [aH _ _ _ _ hib,aH _ _ _ _ hne] at hx;unfold C7 at hx;cases hy:s.H id with
  |none=>rw [hy] at hx;cases hx
  |some y=>
   rw [hy] at hx;exact⟨by simp,fun X hX=>aAs (h.heap id y hy).2 hX hne hx⟩
 intro j X hX;exact aCy (h.slots j) hX
inductive VRp (p:V→V→Prop):V→V→Prop
 |same (v:V):VRp p v v
 |put {v v':V} (h:p v v'):VRp p v v'
 |agg {cs cs':List V} (hl:cs'.length=cs.length) (h: ∀(i:Nat) c c',cs[i]? =some c→cs'[i]? =some c'→VRp p c c'):VRp p (.agg cs) (.agg cs')
theorem VRp.rv{p:V→V→Prop}{β β':Map}{w w':World}{X X':Nat→Prop}(hm: ∀v u,RV β w X v u→RV β' w' X' v u)(hp: ∀v v' u,p v v'→RV β w X v u→RV β' w' X' v' u){v v':V}(h:VRp p v v'): ∀u,RV β w X v u→RV β' w' X' v' u:=by
 induction h with
 |same v=>exact hm v
 |put h=>exact fun u=>hp _ _ u h
 |agg hl h ih=>
  intro u hu;cases hu with
  |agg _ us hl2 h2=>
   refine .agg _ us (by omega) fun i c' u hc' hu=>?_;have hi:=(cC.1 hc').1;have hc:=dH (show i<_ by rw [←hl];exact hi);exact ih i _ c' hc hc' u (h2 i _ u hc hu)
def ERp(p:V→V→Prop)(e e':E):Prop:=e'=e∨ ∃cs cs',e= .cells cs∧e'= .cells cs'∧cs'.length=cs.length∧ ∀(i:Nat) c c',cs[i]? =some c→cs'[i]? =some c'→VRp p c c'
theorem ERp.re{p:V→V→Prop}{β β':Map}{w:World}{X X':Nat→Prop}{id:Nat}(hid: ∀x,β id=some x→β' id=some x)(hs: ∀e,RE β w X id e→RE β' w X' id e)(hm: ∀v u,RV β w X v u→RV β' w X' v u)(hp: ∀v v' u,p v v'→RV β w X v u→RV β' w X' v' u){e e':E}(h:ERp p e e')(hr:RE β w X id e):RE β' w X' id e':=by
 rcases h with rfl|⟨cs,cs',rfl,rfl,hl,h⟩
 ·exact hs _ hr
 obtain⟨b,us,ty,g1,g2,g3,g4⟩:=hr;refine⟨b,us,ty,hid _ g1,g2,by omega,fun i c' u hc' hu=>?_⟩;have hi:=(cC.1 hc').1;have hc:=dH (show i<_ by rw [←hl];exact hi);exact VRp.rv hm hp (h i _ c' hc hc') u (g4 i _ u hc hu)
theorem aBA{K:Ctx}{s:S}(t':Nat→V)(H':Nat→Option E)(k gen size:Nat){e:TypeId}{rows:List (List T)}(hk0:Nat.ble K.n0 k=true)(hk:s.H k=some (.arr e gen size rows))
  (ht: ∀i,VRp (fun v v'=>v= .msl k gen size 0 rows.length∧v'= .t (.sl rows)) (s.t i) (t' i)) (hHk:H' k=none)
  (hH: ∀id e',H' id=some e'→ ∃e0,s.H id=some e0∧ERp (fun v v'=>v= .msl k gen size 0 rows.length∧v'= .t (.sl rows)) e0 e'):s.le K {t:=t',H:=H',u:=s.u}:=by
 intro β a w h;have hn0:=rZ hk0;have hown: ∀b',own K β H' b'→own K β s.H b':=by
  rintro b' (hx|⟨id,h1,h2⟩)
  ·exact .inl hx
  cases he:H' id with
  |none=>exact absurd he h1
  |some e'=>obtain⟨e0,h3,_⟩:=hH id e' he;exact .inr ⟨id,by rw [h3];simp,h2⟩
 have hnot: ∀b',At β k b'→ ¬own K β H' b':=by
  rintro b' hb' (hx|⟨id,h1,h2⟩)
  ·obtain⟨x1,x2⟩:=h.xold b' hx;rcases(h.fresh k b' hb').1 with hlt|hge
   ·exact x2 hlt
   omega
  have:=h.inj _ _ _ h2 hb';subst this;exact h1 hHk
 have hre:=(h.heap k _ hk).2;have hm: ∀v u,RV β w (own K β s.H) v u→RV β w (own K β H') v u:=fun v u hv=>hv.mono (Ext.refl _ _) (fun b _=>hown b) (MLe.refl _) (Shaped.refl _ _);have hp: ∀v v' u,(v= .msl k gen size 0 rows.length∧v'= .t (.sl rows))→RV β w (own K β s.H) v u→RV β w (own K β H') v' u:=by
  rintro v v' u ⟨rfl,rfl⟩ hv;exact .t _ _ (hre.read hv hown hnot)
 refine⟨β,{h with heap:= ?_,slots:= ?_}⟩
 ·intro id e' he';obtain⟨e0,h1,h2⟩:=hH id e' he';obtain⟨h3,h4⟩:=h.heap id e0 h1;exact⟨h3,h2.re (fun _ h=>h) (fun e he=>he.mono (Ext.refl _ _) (fun b _=>hown b) (MLe.refl _) (fun _ h=>h) (Shaped.refl _ _) fun _ _=>rfl) hm hp h4⟩
 intro i;exact VRp.rv hm hp (ht i) _ (h.slots i)
theorem aDb{K:Ctx}{s:S}(t':Nat→V)(H':Nat→Option E)(k k' gen size n0:Nat){e0:E}(hk0:Nat.ble K.n0 k=true)(hne:k≠k')(hk:s.H k=some e0)(hg:e0.gen=some gen)(hu:s.u k'=false)
  (ht: ∀i,VRp (fun v v'=>v= .msl k gen size 0 n0∧v'= .msl k' 1 size 0 n0) (s.t i) (t' i)) (hHk:H' k=none) (hHk':H' k'=some e0.re1)
  (hH: ∀id e',id≠k'→H' id=some e'→ ∃e0,s.H id=some e0∧ERp (fun v v'=>v= .msl k gen size 0 n0∧v'= .msl k' 1 size 0 n0) e0 e'):
  s.le K {t:=t',H:=H',u:=upd s.u k' true}:=by
 intro β a w h;have hn0:=rZ hk0;obtain⟨hg1,q,hq⟩:=q9 (h.heap k _ hk).2 hg;have hku:=(h.heap k _ hk).1;have hd:=h.dom k' hu;have hk'0:K.n0≤k':=by
  apply Nat.le_of_not_lt;intro hlt;rw [h.low k' hlt] at hu;cases hu
 let β':=β.move k k' gen q;have b1:β' k'=some (q,1):=L1 _ _ _ _ _;have b2:β' k=some (none,gen+1):=L0 _ _ _ _ _ hne;have b3: ∀id,id≠k→id≠k'→β' id=β id:=fun id h1 h2=>v7 _ _ _ _ _ _ h1 h2;have hinv: ∀id b,At β' id b→(id=k'∧At β k b)∨(id≠k∧id≠k'∧At β id b):=by
  intro id b hb;exact aFk hne hq hb
 have hβ:MLe β β':=by
  intro id q2 g hx;by_cases h2:id=k
  ·subst h2;rw [hq] at hx;cases hx;exact .inr ⟨hg1,none,gen+1,b2,vAV _⟩
  have h1:id≠k':=by intro e;subst e;rw [hd] at hx;cases hx
  exact .inl (by rw [b3 id h2 h1];exact hx)
 have hown: ∀b,own K β' H' b→own K β s.H b:=by
  rintro b (hx|⟨id,h1,h2⟩)
  ·exact .inl hx
  rcases hinv id b h2 with ⟨rfl,h3⟩|⟨h3,h4,h5⟩
  ·exact .inr ⟨k,by rw [hk];simp,h3⟩
  cases he:H' id with
  |none=>exact absurd he h1
  |some e'=>obtain⟨e0,h6,_⟩:=hH id e' h4 he;exact .inr ⟨id,by rw [h6];simp,h5⟩
 have hm: ∀v u,RV β w (own K β s.H) v u→RV β' w (own K β' H') v u:=fun v u hv=>hv.mono (Ext.refl _ _) (fun b _=>hown b) hβ (Shaped.refl _ _);have hp: ∀v v' u,(v= .msl k gen size 0 n0∧v'= .msl k' 1 size 0 n0)→RV β w (own K β s.H) v u→RV β' w (own K β' H') v' u:=by
  rintro v v' u ⟨rfl,rfl⟩ hv;rcases bP hv hq with ⟨cap,b,n,ty',rfl,hb0,hw,hs,hn',hl,hm2⟩|⟨hb0,h1,h2,rfl⟩
  ·subst hb0;exact .msl k' 1 size 0 _ cap b n ty' (kF _) b1 hw hs hn' hl hm2
  subst hb0;rw [h2];exact .msl0 k' 1 size (kF _) b1
 refine⟨β',{h with base:= ?_,low:= ?_,dom:= ?_,domn:= ?_,inj:= ?_,fresh:= ?_,heap:= ?_,slots:= ?_}⟩
 ·exact h.base.keep fun id hid=>b3 id (by omega) (by omega)
 ·intro id hid;show upd s.u k' true id=true;rw [aH _ _ _ _ (by omega)];exact h.low id hid
 ·intro id hid;have hid':upd s.u k' true id=false:=hid;by_cases h1:id=k'
  ·subst h1;rw [aI] at hid';cases hid'
  rw [aH _ _ _ _ h1] at hid';rw [b3 id (by intro e;subst e;rw [hku] at hid';cases hid') h1];exact h.dom id hid'
 ·intro id b hid hb;have hid':upd s.u k' true id=false:=hid;rcases hb with ⟨h1,_⟩|⟨h1,_,hb⟩
  ·subst h1;rw [aI] at hid';cases hid'
  rw [aH _ _ _ _ h1] at hid';exact h.domn id b hid' hb
 ·intro id id' b h1 h2;rcases hinv id b h1 with ⟨rfl,h3⟩|⟨h3,h4,h5⟩<;>rcases hinv id' b h2 with ⟨e2,h6⟩|⟨h6,h7,h8⟩
  ·exact e2.symm
  ·exact absurd (h.inj _ _ b h8 h3) h6
  ·subst e2;exact absurd (h.inj _ _ b h5 h6) h3
  exact h.inj _ _ b h5 h8
 ·intro id b hb;rcases hinv id b hb with ⟨rfl,h3⟩|⟨h3,h4,h5⟩
  ·refine⟨?_,(h.fresh _ _ h3).2⟩;exact(h.fresh _ _ h3).1
  exact h.fresh id b h5
 ·intro id e' hx;have hy:H' id=some e':=hx;clear hx;show upd s.u k' true id=true∧RE β' w (own K β' H') id e';by_cases h1:id=k'
  ·subst h1;rw [hHk'] at hy;cases hy;exact⟨aI _ _ _,(h.heap k _ hk).2.setG (kF _) hg hq b1 (fun b=>by simp [β',Map.move]) hown fun _ _ v _ u=>hm v u⟩
  have h2:id≠k:=by intro e;subst e;rw [hHk] at hy;cases hy
  obtain⟨e0,h5,h6⟩:=hH id e' h1 hy;obtain⟨h3,h4⟩:=h.heap id e0 h5;rw [aH _ _ _ _ h1];refine⟨h3,h6.re (fun x hx=>by rw [b3 id h2 h1];exact hx) (fun e he=>he.mono (Ext.refl _ _) (fun b _=>hown b) hβ (fun x hx=>by rw [b3 id h2 h1];exact hx) (Shaped.refl _ _) (fun _ _=>rfl) fun b=>aHF _ _ _ _ _ _ _ h2 h1) hm hp h4⟩
 intro j;exact VRp.rv hm hp (ht j) _ (h.slots j)
mutual
def rpV(k g z n:Nat)(new:V):V→V×List Ob
 | .msl k' gen size off len=>match Nat.beq k' k&&Nat.beq off 0 with
  |true=>(new,[.q gen g,.q size z,.q len n])
  |false=>(.msl k' gen size off len,[])
 | .agg cs=>(.agg (rpL k g z n new cs).1,(rpL k g z n new cs).2)
 |v=>(v,[])
def rpL(k g z n:Nat)(new:V):List V→List V×List Ob
 | []=>([],[])
 |c::cs=>((rpV k g z n new c).1::(rpL k g z n new cs).1,(rpV k g z n new c).2++(rpL k g z n new cs).2)
end
theorem vV(k g z n:Nat)(new:V): ∀cs,(rpL k g z n new cs).1.length=cs.length
 | []=>rfl
 |c::cs=>by simp [rpL,vV k g z n new cs]
mutual
theorem aHq(k g z n:Nat)(new:V): ∀v,Obs (rpV k g z n new v).2→VRp (fun a b=>a= .msl k g z 0 n∧b=new) v (rpV k g z n new v).1
 | .msl k' gen size off len,h=>by
  unfold rpV at h⊢;cases hb:Nat.beq k' k&&Nat.beq off 0 with
  |false=>exact .same _
  |true=>
   simp only [hb] at h⊢;simp only [Bool.and_eq_true] at hb;obtain⟨rfl,rfl,rfl,_⟩:=h;have e1:=fV hb.1;have e2:=fV hb.2;subst e1;subst e2;exact .put ⟨rfl,rfl⟩
 | .agg cs,h=>by
  simp only [rpV] at h⊢;exact .agg (vV _ _ _ _ _ _) (aDC k g z n new cs h)
 | .t _,_| .tup _,_| .ref _ _,_| .tp _,_| .eref _ _ _ _ _,_| .fn _ _,_| .junk,_=>by simp only [rpV];exact .same _
theorem aDC(k g z n:Nat)(new:V): ∀cs,Obs (rpL k g z n new cs).2→ ∀(i:Nat) c c',cs[i]? =some c→(rpL k g z n new cs).1[i]? =some c'→VRp (fun a b=>a= .msl k g z 0 n∧b=new) c c'
 | [],_,i,c,c',h,_=>by simp at h
 |c0::cs,ho,0,c,c',h,h'=>by
  simp only [rpL] at ho h';simp at h h';subst h;subst h';exact aHq k g z n new c0 (Obs.app ho).1
 |c0::cs,ho,i+1,c,c',h,h'=>by simp only [rpL] at ho h';simp at h h';exact aDC k g z n new cs (Obs.app ho).2 i c c' h h'
end
def Y1(k g z n:Nat)(new:V)(s:S):List Nat→List (Nat×V)×List Ob
 | []=>([],[])
 |i::is=>((i,(rpV k g z n new (s.t i)).1)::(Y1 k g z n new s is).1,(rpV k g z n new (s.t i)).2++(Y1 k g z n new s is).2)
def E3(k g z n:Nat)(new:V)(s:S):List Nat→List (Nat×Option E)×List Ob
 | []=>([],[])
 |b::bs=>match s.H b with
  |some (.cells cs)=>((b,some (.cells (rpL k g z n new cs).1))::(E3 k g z n new s bs).1,(rpL k g z n new cs).2++(E3 k g z n new s bs).2)
  |_=>E3 k g z n new s bs
theorem aDB{k g z n:Nat}{new:V}{s:S}: ∀{is:List Nat},Obs (Y1 k g z n new s is).2→ ∀i v,(i,v)∈(Y1 k g z n new s is).1→VRp (fun a b=>a= .msl k g z 0 n∧b=new) (s.t i) v
 |i0::is,ho,i,v,h=>by
  simp only [Y1] at ho h;rcases qE.1 h with h|h
  ·cases h;exact aHq _ _ _ _ _ _ (Obs.app ho).1
  exact aDB (Obs.app ho).2 i v h
theorem aAU{k g z n:Nat}{new:V}{s:S}: ∀{bs:List Nat},Obs (E3 k g z n new s bs).2→ ∀b e,(b,e)∈(E3 k g z n new s bs).1→ ∃e0 e',s.H b=some e0∧e=some e'∧ERp (fun a b=>a= .msl k g z 0 n∧b=new) e0 e'
 |b0::bs,ho,b,e,h=>by
  unfold E3 at ho h;split at h
  ·rename_i cs hb;simp only [hb] at ho;rcases qE.1 h with h|h
   ·cases h;exact⟨_,_,hb,rfl,.inr ⟨cs,_,rfl,rfl,vV _ _ _ _ _ _,aDC _ _ _ _ _ _ (Obs.app ho).1⟩⟩
   exact aAU (Obs.app ho).2 b e h
  rename_i hb;split at ho
  ·rename_i cs hb2;exact absurd hb2 (hb cs)
  exact aAU ho b e h
theorem aFn{k:Nat}: ∀{l:List Nat},k∈l→nV k l=true
 |x::l,h=>by
  simp only [nV];rcases qE.1 h with rfl|h
  ·simp
  cases Nat.beq x k with
  |true=>rfl
  |false=>exact aFn h
theorem s7{k:Nat}{l:List Nat}(h:(!nV k l)=true):k∉l:=fun hm=>by rw [aFn hm] at h;cases h
theorem aFH{k k':Nat}(h:(!Nat.beq k k')=true):k≠k':=fun e=>by subst e;simp at h
theorem sW{k g z n:Nat}{new:V}{s:S}: ∀{bs:List Nat} {b:Nat} {e:Option E},(b,e)∈(E3 k g z n new s bs).1→b∈bs
 |b0::bs,b,e,h=>by
  unfold E3 at h;split at h
  ·rcases qE.1 h with h|h
   ·cases h;exact uX
   exact r9 _ (sW h)
  exact r9 _ (sW h)
theorem aM8{K:Ctx}{s:S}{k gen size:Nat}{e:TypeId}{rows:List (List T)}{is bs:List Nat}(hk0:Nat.ble K.n0 k=true)(hk:s.H k=some (.arr e gen size rows))(hb:k∉bs)
  (h1:Obs (Y1 k gen size rows.length (.t (.sl rows)) s is).2) (h2:Obs (E3 k gen size rows.length (.t (.sl rows)) s bs).2):
  s.le K ((⟨(Y1 k gen size rows.length (.t (.sl rows)) s is).1,(k,none)::(E3 k gen size rows.length (.t (.sl rows)) s bs).1,[]⟩:Eff).app s):=by
 refine aBA _ _ k gen size hk0 hk (fun i=>?_) ?_ fun id e' he=>?_
 ·rcases dI (Y1 k gen size rows.length (.t (.sl rows)) s is).1 s.t i with ⟨_,c2⟩|⟨v,c1,c2⟩
  ·rw [c2];exact .same _
  rw [c2];exact aDB h1 i v c1
 ·show cF (upd s.H k none) _ k=none;rw [fW _ _ _ fun v hv=>hb (sW hv),aI]
 have he:cF (upd s.H k none) (E3 k gen size rows.length (.t (.sl rows)) s bs).1 id=some e':=he;rcases dI (E3 k gen size rows.length (.t (.sl rows)) s bs).1 (upd s.H k none) id with ⟨_,c2⟩|⟨v,c1,c2⟩
 ·rw [c2] at he;by_cases hid:id=k
  ·subst hid;rw [aI] at he;cases he
  rw [aH _ _ _ _ hid] at he;exact⟨e',he,.inl rfl⟩
 rw [c2] at he;subst he;obtain⟨e0,e1,c3,c4,c5⟩:=aAU h2 id _ c1;cases c4;exact⟨e0,c3,c5⟩
theorem aKB{K:Ctx}{s:S}{k k' gen size n0:Nat}{e0:E}{is bs:List Nat}(hk0:Nat.ble K.n0 k=true)(hne:k≠k')(hk:s.H k=some e0)(hg:e0.gen=some gen)(hu:s.u k'=false)(hb:k∉bs)(hb':k'∉bs)
  (h1:Obs (Y1 k gen size n0 (.msl k' 1 size 0 n0) s is).2) (h2:Obs (E3 k gen size n0 (.msl k' 1 size 0 n0) s bs).2):
  s.le K ((⟨(Y1 k gen size n0 (.msl k' 1 size 0 n0) s is).1,(k,none)::(k',some e0.re1)::(E3 k gen size n0 (.msl k' 1 size 0 n0) s bs).1,[(k',true)]⟩:Eff).app s):=by
 refine aDb _ _ k k' gen size n0 hk0 hne hk hg hu (fun i=>?_) ?_ ?_ fun id e' hid' he=>?_
 ·rcases dI (Y1 k gen size n0 (.msl k' 1 size 0 n0) s is).1 s.t i with ⟨_,c2⟩|⟨v,c1,c2⟩
  ·rw [c2];exact .same _
  rw [c2];exact aDB h1 i v c1
 ·show cF (upd (upd s.H k none) k' _) _ k=none;rw [fW _ _ _ fun v hv=>hb (sW hv),aH _ _ _ _ hne,aI]
 ·show cF (upd (upd s.H k none) k' _) _ k'=_;rw [fW _ _ _ fun v hv=>hb' (sW hv),aI]
 have he:cF (upd (upd s.H k none) k' (some e0.re1)) (E3 k gen size n0 (.msl k' 1 size 0 n0) s bs).1 id=some e':=he;rcases dI (E3 k gen size n0 (.msl k' 1 size 0 n0) s bs).1 (upd (upd s.H k none) k' (some e0.re1)) id with ⟨_,c2⟩|⟨v,c1,c2⟩
 ·rw [c2,aH _ _ _ _ hid'] at he;by_cases hid:id=k
  ·subst hid;rw [aI] at he;cases he
  rw [aH _ _ _ _ hid] at he;exact⟨e',he,.inl rfl⟩
 rw [c2] at he;subst he;obtain⟨e0,e1,c3,c4,c5⟩:=aAU h2 id _ c1;cases c4;exact⟨e0,c3,c5⟩
theorem aBy{K:Ctx}{s:S}(t':Nat→V)(k:Nat){cs:List T}(hk0:Nat.ble K.n0 k=true)(hk:s.H k=some (.cells (cs.map .t)))
  (ht: ∀i,t' i=s.t i∨ ∃off,s.t i= .ref k off∧t' i= .tp (cs.drop off)):s.le K {t:=t',H:=upd s.H k none,u:=s.u}:=by
 intro β a w h;have hn0:=rZ hk0;obtain⟨b,us,ty,g1,g2,g3,g4⟩:=(h.heap k _ hk).2;have hown: ∀b',own K β (upd s.H k none) b'→own K β s.H b':=by
  rintro b' (hx|⟨id,h1,h2⟩)
  ·exact .inl hx
  by_cases hid:id=k
  ·subst hid;rw [aI] at h1;exact absurd rfl h1
  rw [aH _ _ _ _ hid] at h1;exact .inr ⟨id,h1,h2⟩
 have hnot: ¬own K β (upd s.H k none) b:=by
  rintro(hx|⟨id,h1,h2⟩)
  ·obtain⟨x1,x2⟩:=h.xold b hx;rcases(h.fresh k b (.inl ⟨_,g1⟩)).1 with hlt|hge
   ·exact x2 hlt
   omega
  have:=h.inj _ _ _ h2 (.inl ⟨_,g1⟩);subst this;rw [aI] at h1;exact h1 rfl
 refine⟨β,{h with heap:= ?_,slots:= ?_}⟩
 ·intro id e' he';have he':upd s.H k none id=some e':=he';by_cases hid:id=k
  ·subst hid;rw [aI] at he';cases he'
  rw [aH _ _ _ _ hid] at he';obtain⟨h1,h2⟩:=h.heap id e' he';exact⟨h1,h2.mono (Ext.refl _ _) (fun b _=>hown b) (MLe.refl _) (fun _ h=>h) (Shaped.refl _ _) fun _ _=>rfl⟩
 intro j;show RV β w _ (t' j) _;rcases ht j with hj|⟨off,h1,h2⟩
 ·rw [hj];exact(h.slots j).mono (Ext.refl _ _) (fun b _=>hown b) (MLe.refl _) (Shaped.refl _ _)
 rw [h2];have h3:=h.slots j;rw [h1] at h3;obtain⟨b2,hb2,hu⟩:=qY h3;rw [g1] at hb2;cases hb2;rw [hu];have hb:=(h.fresh k b (.inl ⟨_,g1⟩)).2;refine .tp _ b off (fun i=>us.getD (off+i) undef) hb hnot (fun i hi=>?_) fun i x hx=>?_
 ·have hlt:off+i<us.size:=by simp at hi g3;omega
  simp [World.cell?,g2,hlt]
 have hx':cs[off+i]? =some x:=by simpa using hx
 have hlt:off+i<us.size:=by have:=(cC.1 hx').1;simp at g3;omega
 have h5:=g4 (off+i) (.t x) us[off+i] (by simp [hx']) (by simp [hlt]);have e:us.getD (off+i) undef=us[off+i]:=by simp [hlt]
 rw [e];cases h5 with
 |t _ _ h6=>exact h6.mono (Ext.refl _ _) fun b _=>hown b
def fpL(k:Nat)(cs:List T)(s:S):List Nat→Option (List (Nat×V))
 | []=>some []
 |i::is=>match s.t i with
  | .ref k' off=>match Nat.beq k' k,fpL k cs s is with
   |true,some l=>some ((i,.tp (cs.drop off))::l)
   |_,_=>none
  |_=>none
theorem aH1{k:Nat}{cs:List T}{s:S}: ∀{is:List Nat} {l:List (Nat×V)},fpL k cs s is=some l→ ∀i v,(i,v)∈l→ ∃off,s.t i= .ref k off∧v= .tp (cs.drop off)
 | [],l,h,i,v,hm=>by cases h;cases hm
 |i0::is,l,h,i,v,hm=>by
  unfold fpL at h;split at h
  ·rename_i k' off he;split at h
   ·rename_i l2 hb hr;cases h;have e1:=fV hb;subst e1;rcases qE.1 hm with hm|hm
    ·cases hm;exact⟨off,he,rfl⟩
    exact aH1 hr i v hm
   cases h
  cases h
def aH0(rows:List (List T)):List Nat→List (Nat×V)
 | []=>[]
 |i::is=>(i,.t (.sl rows))::aH0 rows is
def aD6(k gen' size' n:Nat)(s:S):List Nat→Option (List Ob)
 | []=>some []
 |i::is=>match s.t i with
  | .msl k' gen size off len=>match Nat.beq k' k&&Nat.beq off 0,aD6 k gen' size' n s is with
   |true,some φ=>some (.q gen gen':: .q size size':: .q len n::φ)
   |_,_=>none
  |_=>none
theorem aFx{k gen' size' n:Nat}{s:S}: ∀{is:List Nat} {φ:List Ob},aD6 k gen' size' n s is=some φ→Obs φ→ ∀i,i∈is→s.t i= .msl k gen' size' 0 n
 | [],_,_,_,i,h=>by cases h
 |i0::is,φ,h,hφ,i,hi=>by
  unfold aD6 at h;split at h
  ·rename_i k' gen size off len he;split at h
   ·rename_i φ2 hb hr;cases h;simp only [Bool.and_eq_true] at hb;obtain⟨rfl,rfl,rfl,h2⟩:=hφ;have e1:=fV hb.1;have e2:=fV hb.2;subst e1;subst e2;rcases qE.1 hi with rfl|hi
    ·exact he
    exact aFx hr h2 i hi
   cases h
  cases h
theorem aCo{rows:List (List T)}{j:Nat}{v:V}: ∀{is:List Nat},(j,v)∈aH0 rows is→j∈is∧v= .t (.sl rows)
 |i::is,h=>by
  simp only [aH0,List.mem_cons] at h;rcases h with h|h
  ·cases h;exact⟨uX,rfl⟩
  obtain⟨h1,h2⟩:=aCo h;exact⟨r9 _ h1,h2⟩
def aJZ{α:Type}:List α→Bool
 | []=>true
 |_::_=>false
theorem aAZ{α:Type}{l:List α}(h:aJZ l=true):l=[]:=by
 cases l with
 |nil=>rfl
 |cons=>cases h
def rU(C:Cfg)(h:Hn)(s:S):Option (Option (Eff×List Ob)):=
 match h with
 | .frz i k=>match s.t i,s.H k with
  | .msl k' gen size off len,some (.arr _ gen' size' rows)=>match Nat.beq k' k&&(Nat.beq off 0&&Nat.ble C.n0 k) with
   |true=>some (some (⟨[(i,.t (.sl rows))],[(k,none)],[]⟩,[.q gen gen',.q size size',.q len rows.length]))
   |false=>some none
  |_,_=>some none
 | .frzs is k=>match s.H k with
  |some (.arr _ gen' size' rows)=>match Nat.ble C.n0 k,aD6 k gen' size' rows.length s is with
   |true,some φ=>some (some (⟨aH0 rows is,[(k,none)],[]⟩,φ))
   |_,_=>some none
  |_=>some none
 | .grow i k e=>match s.t i,s.u k,bM C.Ty e with
  | .t .nilS,false,some j=>some (some (⟨[(i,.msl k 1 j.size 0 0)],[(k,some (.arr e 1 j.size []))],[(k,true)]⟩,[]))
  |_,_,_=>some none
 | .len i n=>match s.t i with
  | .msl k gen size off len=>some (some (⟨[(i,.msl k gen size off n)],[],[]⟩,[.p (len=n)]))
  |_=>some none
 | .fp k is=>match s.H k with
  |some (.cells vs)=>match zH vs,Nat.ble C.n0 k with
   |some cs,true=>match fpL k cs s is with
    |some l=>some (some (⟨l,[(k,none)],[]⟩,[]))
    |none=>some none
   |_,_=>some none
  |_=>some none
 | .fz k is bs=>match s.H k with
  |some (.arr _ gen size rows)=>match Nat.ble C.n0 k&& !nV k bs with
   |true=>some (some (⟨(Y1 k gen size rows.length (.t (.sl rows)) s is).1,(k,none)::(E3 k gen size rows.length (.t (.sl rows)) s bs).1,[]⟩,(Y1 k gen size rows.length (.t (.sl rows)) s is).2++(E3 k gen size rows.length (.t (.sl rows)) s bs).2))
   |false=>some none
  |_=>some none
 | .rn k k' is bs=>match s.H k,s.u k' with
  |some (.arr e gen size rows),false=>match Nat.ble C.n0 k&&(!Nat.beq k k'&&(!nV k bs&& !nV k' bs)) with
   |true=>some (some (⟨(Y1 k gen size rows.length (.msl k' 1 size 0 rows.length) s is).1,(k,none)::(k',some (.arr e 1 size rows))::(E3 k gen size rows.length (.msl k' 1 size 0 rows.length) s bs).1,[(k',true)]⟩,
     (Y1 k gen size rows.length (.msl k' 1 size 0 rows.length) s is).2++(E3 k gen size rows.length (.msl k' 1 size 0 rows.length) s bs).2))
   |false=>some none
  |some (.tree Γ m gen rows []),false=>match Nat.ble C.n0 k&&(!Nat.beq k k'&&(!nV k bs&& !nV k' bs)) with
   |true=>some (some (⟨(Y1 k gen (ndOf Γ m).size rows.length (.msl k' 1 (ndOf Γ m).size 0 rows.length) s is).1,(k,none)::(k',some (.tree Γ m 1 rows []))::(E3 k gen (ndOf Γ m).size rows.length (.msl k' 1 (ndOf Γ m).size 0 rows.length) s bs).1,[(k',true)]⟩,
     (Y1 k gen (ndOf Γ m).size rows.length (.msl k' 1 (ndOf Γ m).size 0 rows.length) s is).2++(E3 k gen (ndOf Γ m).size rows.length (.msl k' 1 (ndOf Γ m).size 0 rows.length) s bs).2))
   |false=>some none
  |_,_=>some none
 | .lenc b j n=>match s.H b with
  |some (.cells cs)=>match cs[j]? with
   |some (.msl k gen size off len)=>some (some (⟨[],[(b,some (.cells (cs.set j (.msl k gen size off n))))],[]⟩,[.p (len=n)]))
   |_=>some none
  |_=>some none
 | .ren i k k'=>match s.t i,s.H k,s.u k' with
  | .msl k0 gen size off len,some (.arr e gen' size' rows),false=>match Nat.beq k0 k&&(Nat.ble C.n0 k&& !Nat.beq k k') with
   |true=>some (some (⟨[(i,.msl k' 1 size off len)],[(k,none),(k',some (.arr e 1 size' rows))],[(k',true)]⟩,[.q gen gen',.q size size']))
   |false=>some none
  |_,_,_=>some none
 | .frzc b j k=>match s.H b,s.H k with
  |some (.cells cs),some (.arr _ gen' size' rows)=>match cs[j]?,Nat.ble C.n0 k with
   |some (.msl k' gen size off len),true=>match Nat.beq k' k&&Nat.beq off 0 with
    |true=>some (some (⟨[],[(k,none),(b,some (.cells (cs.set j (.t (.sl rows)))))],[]⟩,[.q gen gen',.q size size',.q len rows.length]))
    |false=>some none
   |_,_=>some none
  |some (.tree Γ m g0 rows0 ((i0,j0,.msl k' gen size off len)::hs)),some (.arr _ gen' size' rows)=>match Nat.beq k' k&&(Nat.beq off 0&&(Nat.ble C.n0 k&& !Nat.beq b k)) with
   |true=>some (some (⟨[],[(k,none),(b,some (.tree Γ m g0 rows0 ((i0,j0,.t (.sl rows))::hs)))],[]⟩,[.q gen gen',.q size size',.q len rows.length]))
   |false=>some none
  |_,_=>some none
 | .growc b j k e=>match s.H b,s.u k,bM C.Ty e with
  |some (.cells cs),false,some i=>match cs[j]? with
   |some (.t .nilS)=>some (some (⟨[],[(k,some (.arr e 1 i.size [])),(b,some (.cells (cs.set j (.msl k 1 i.size 0 0))))],[(k,true)]⟩,[]))
   |_=>some none
  |_,_,_=>some none
 | .nzc k=>match s.H k with
  |some (.cells cs)=>some (some (⟨[],[(k,some (.cells (G6 cs)))],[]⟩,[]))
  |_=>some none
 | .tre k Γ m=>match s.H k with
  |some (.arr ty gen size rows)=>match aJZ (ndOf Γ m).kids||aJZ rows with
   |true=>some (some (⟨[],[(k,some (.tree Γ m gen rows []))],[]⟩,[.q (ndOf Γ m).ty ty,.q (ndOf Γ m).size size]))
   |false=>some none
  |some (.tree Γ' m' gen rows hs)=>match Nat.ble C.n0 k&&aJZ (ndOf Γ m).kids with
   |true=>some (some (⟨[],[(k,some (.tree Γ m gen rows hs))],[]⟩,[.q (ndOf Γ m).ty (ndOf Γ' m').ty,.q (ndOf Γ m).size (ndOf Γ' m').size]))
   |false=>some none
  |_=>some none
 | .shd k=>match s.H k with
  |some (.tree Γ m gen rows [])=>match Nat.ble C.n0 k with
   |true=>some (some (⟨[],[(k,some (.arr (ndOf Γ m).ty gen (ndOf Γ m).size rows))],[]⟩,[]))
   |false=>some none
  |_=>some none
 | .foc k k' i j row=>match s.H k,s.u k' with
  |some (.tree Γ m gen rows hs),false=>match (ndOf Γ m).kid j,row[j]? with
   |some m2,some (.sl rows2)=>some (some (⟨[],[(k,some (.tree Γ m gen rows ((i,j,.msl k' 1 (ndOf Γ m2).size 0 rows2.length)::hs))),(k',some (.tree Γ m2 1 rows2 []))],[(k',true)]⟩,.p (rows[i]? =some row)::aDV i j hs))
   |_,_=>some none
  |_,_=>some none
 | .flt k i j row=>match s.H k with
  |some (.tree Γ m gen rows hs)=>match (ndOf Γ m).kid j,row[j]?,oK j hs with
   |none,some x,true=>some (some (⟨[],[(k,some (.tree Γ m gen rows ((i,j,.t x)::hs)))],[]⟩,[.p (rows[i]? =some row)]))
   |_,_,_=>some none
  |_=>some none
 | .unt k row R=>match s.H k with
  |some (.tree Γ m gen rows ((i,j,.t x)::hs))=>match (ndOf Γ m).kid j,Nat.blt j (ndOf Γ m).size&&oK j hs with
   |none,true=>some (some (⟨[],[(k,some (.tree Γ m gen R hs))],[]⟩,[.p (rows[i]? =some row),.p (rows.set i (row.set j x)=R)]))
   |some _,true=>match x with
    | .nilS=>some (some (⟨[],[(k,some (.tree Γ m gen R hs))],[]⟩,[.p (rows[i]? =some row),.p (rows.set i (row.set j (.sl []))=R)]))
    |_=>some none
   |_,_=>some none
  |_=>some none
 | .growa i j k e=>match s.t i,s.u k,bM C.Ty e with
  | .agg cs,false,some y=>match cs[j]? with
   |some (.t .nilS)=>some (some (⟨[(i,.agg (cs.set j (.msl k 1 y.size 0 0)))],[(k,some (.arr e 1 y.size []))],[(k,true)]⟩,[]))
   |_=>some none
  |_,_,_=>some none
 | .unf k k' row R=>match s.H k,s.H k' with
  |some (.tree Γ m gen rows ((i,j,.msl k2 g z o n)::hs)),some (.tree Γ' m2 g' rows2 [])=>match (ndOf Γ m).kid j,Nat.beq k2 k'&&(!Nat.beq k k'&&(Nat.ble C.n0 k'&&(Nat.beq o 0&&Nat.blt j (ndOf Γ m).size))) with
   |some m3,true=>some (some (⟨[],[(k',none),(k,some (.tree Γ m gen R hs))],[]⟩,.q g g':: .q z (ndOf Γ m2).size:: .p (n=rows2.length):: .q m3 m2:: .p (Γ'=Γ):: .p (rows[i]? =some row):: .p (rows.set i (row.set j (.sl rows2))=R)::aDV i j hs))
   |_,_=>some none
  |_,_=>some none
 | .cut k n R=>match s.H k with
  |some (.arr e gen size rows)=>some (some (⟨[],[(k,some (.arr e gen size R))],[]⟩,[.p (R=rows.take n)]))
  |_=>some none
 |_=>none
def C6(C:Cfg)(rem:Nat):List Hn→S→Option (Eff×List Ob×List Hn)
 | [],_=>some (.nil,[],[])
 | .at m::hs,s=>match Nat.beq m rem with
  |true=>C6 C rem hs s
  |false=>some (.nil,[],.at m::hs)
 |h::hs,s=>match rU C h s with
  |none=>some (.nil,[],h::hs)
  |some none=>none
  |some (some (e,φ))=>match C6 C rem hs (e.app s) with
   |some (e',φ',hs')=>some (e.cat e',φ++φ',hs')
   |none=>none
section
variable {K:Ctx} {C:Cfg}
theorem aIT{K:Ctx}{s:S}(k n:Nat){e:TypeId}{gen size:Nat}{rows:List (List T)}(hk:s.H k=some (.arr e gen size rows)):s.le K {s with H:=upd s.H k (some (.arr e gen size (rows.take n)))}:=by
 intro β a w h;refine⟨β,h.reE k hk fun X hre=>⟨hre.1,?_⟩⟩;rcases hre.2 with ⟨h1,h2⟩|⟨b,us,h1,h2,h3,h4,h5⟩
 ·exact .inl ⟨h1,by rw [h2];simp⟩
 refine .inr ⟨b,us,h1,h2,r8 (jL _ (List.length_take_le' _ _)) h3,fun row hr=>h4 row (vAw hr),fun i j row x u a1 a2 a3=>?_⟩;rw [D8] at a1;split at a1
 ·exact h5 i j row x u a1 a2 a3
 cases a1
theorem G3(hC:C.Fits K){h:Hn}{s:S}{e:Eff}{φ:List Ob}(hp:rU C h s=some (some (e,φ)))(hφ:Obs φ):s.le K (e.app s):=by
 unfold rU at hp;split at hp
 ·split at hp
  ·rename_i hi hk;split at hp
   ·rename_i hb;cases hp;simp only [Bool.and_eq_true] at hb;obtain⟨rfl,rfl,rfl,_⟩:=hφ;have e1:=fV hb.1;have e2:=fV hb.2.1;subst e1;subst e2;exact aDc _ _ _ _ (by rw [←hC.n0];exact hb.2.2) hi hk
   cases hp
  cases hp
 ·split at hp
  ·rename_i hk;split at hp
   ·rename_i hb hf;cases hp;refine yQ _ _ _ _ (by rw [←hC.n0];exact hb) (fun j=>?_) hk;rcases dI (aH0 _ _) s.t j with ⟨_,h2⟩|⟨v,h1,h2⟩
    ·exact .inl h2
    obtain⟨m1,rfl⟩:=aCo h1;exact .inr ⟨h2,aFx hf hφ j m1⟩
   cases hp
  cases hp
 ·split at hp
  ·rename_i hi hu hj;cases hp;exact aIU _ _ _ hu hi
  cases hp
 ·split at hp
  ·rename_i hi;cases hp;obtain⟨rfl,_⟩:=hφ;intro β a w hr;refine⟨β,?_⟩;unfold Eff.app;simp only [cF];rw [←hi,aBS];exact hr
  cases hp
 ·split at hp
  ·rename_i vs hk;split at hp
   ·rename_i cs hcs hb;split at hp
    ·rename_i l hl;cases hp;have hk':=hk;rw [lH hcs] at hk';refine aBy _ _ (by rw [←hC.n0];exact hb) hk' fun j=>?_;rcases dI l s.t j with ⟨_,h2⟩|⟨v,h1,h2⟩
     ·exact .inl h2
     obtain⟨off,c1,c2⟩:=aH1 hl j v h1;exact .inr ⟨off,c1,by rw [←c2];exact h2⟩
    cases hp
   cases hp
  cases hp
 ·split at hp
  ·rename_i hk;split at hp
   ·rename_i hb;cases hp;simp only [Bool.and_eq_true] at hb;obtain⟨p1,p2⟩:=Obs.app hφ;exact aM8 (by rw [←hC.n0];exact hb.1) hk (s7 hb.2) p1 p2
   cases hp
  cases hp
 ·split at hp
  ·rename_i hk hu;split at hp
   ·rename_i hb;cases hp;simp only [Bool.and_eq_true] at hb;obtain⟨p1,p2⟩:=Obs.app hφ;exact aKB (by rw [←hC.n0];exact hb.1) (aFH hb.2.1) hk rfl hu (s7 hb.2.2.1) (s7 hb.2.2.2) p1 p2
   cases hp
  ·rename_i hk hu;split at hp
   ·rename_i hb;cases hp;simp only [Bool.and_eq_true] at hb;obtain⟨p1,p2⟩:=Obs.app hφ;exact aKB (by rw [←hC.n0];exact hb.1) (aFH hb.2.1) hk rfl hu (s7 hb.2.2.1) (s7 hb.2.2.2) p1 p2
   cases hp
  cases hp
 ·split at hp
  ·rename_i hb;split at hp
   ·rename_i hj;cases hp;obtain⟨rfl,_⟩:=hφ;intro β a w hr;refine⟨β,?_⟩;have e2:=cC.1 hj;have e3: ∀{cs:List V} {j:Nat} {c:V},cs[j]? =some c→cs.set j c=cs:=by
     intro cs j c h;obtain⟨h1,h2⟩:=cC.1 h;rw [←h2,List.set_getElem_self]
    unfold Eff.app;simp only [cF];rw [e3 hj,←hb,aBS];exact hr
   cases hp
  cases hp
 ·split at hp
  ·rename_i hi hk hu;split at hp
   ·rename_i hb;cases hp;simp only [Bool.and_eq_true,Bool.not_eq_true'] at hb;obtain⟨rfl,rfl,_⟩:=hφ;have e1:=fV hb.1;subst e1;exact aEV _ _ _ _ _ _ _ (by rw [←hC.n0];exact hb.2.1) (Nat.ne_of_beq_eq_false hb.2.2) hi hk hu
   cases hp
  cases hp
 ·split at hp
  ·rename_i hb hk;split at hp
   ·rename_i hj hn;split at hp
    ·rename_i hq;cases hp;simp only [Bool.and_eq_true] at hq;obtain⟨rfl,rfl,rfl,_⟩:=hφ;have e1:=fV hq.1;have e2:=fV hq.2;subst e1;subst e2;exact aBB _ _ _ _ _ (by rw [←hC.n0];exact hn) hb hj hk
    cases hp
   cases hp
  ·rename_i hb hk;split at hp
   ·rename_i hq;cases hp;simp only [Bool.and_eq_true,Bool.not_eq_true'] at hq;obtain⟨rfl,rfl,rfl,_⟩:=hφ;have e1:=fV hq.1;have e2:=fV hq.2.1;subst e1;subst e2;exact aBz _ _ _ _ _ _ (by rw [←hC.n0];exact hq.2.2.1) (Nat.ne_of_beq_eq_false hq.2.2.2) hb hk
   cases hp
  cases hp
 ·split at hp
  ·rename_i hb hu hi;split at hp
   ·rename_i hj;cases hp;exact aGy _ _ _ _ hu hb hj
   cases hp
  cases hp
 ·split at hp
  ·rename_i k cs hk;cases hp;intro β a w hr;exact⟨β,hr.reE _ hk fun X h=>(show ELe (.cells _) (.cells _) from kW cs).re h⟩
  cases hp
 ·split at hp
  ·rename_i hk;split at hp
   ·rename_i hb;cases hp;obtain⟨h1,h2,_⟩:=hφ;refine aGu _ _ _ hk h1 h2 ?_;rcases Bool.or_eq_true_iff.1 hb with h|h
    ·exact .inr (aAZ h)
    exact .inl (aAZ h)
   cases hp
  ·rename_i hk;split at hp
   ·rename_i hb;cases hp;obtain⟨h1,h2,_⟩:=hφ;simp only [Bool.and_eq_true] at hb;exact aGw _ _ _ hk (by rw [←hC.n0];exact hb.1) h1 h2 (aAZ hb.2)
   cases hp
  cases hp
 ·split at hp
  ·rename_i hk;split at hp
   ·rename_i hb;cases hp;exact aGv _ hk (by rw [←hC.n0];exact hb)
   cases hp
  cases hp
 ·split at hp
  ·rename_i hk hu;split at hp
   ·rename_i hm hj;cases hp;exact aEW _ _ _ _ _ hk hu hφ.1 hj hm (xI hφ.2)
   cases hp
  cases hp
 ·split at hp
  ·rename_i hk;split at hp
   ·rename_i hm hj hc;cases hp;exact aGx _ _ _ hk hφ.1 hj hm hc
   cases hp
  cases hp
 ·split at hp
  ·rename_i hk;split at hp
   ·rename_i hm hb;cases hp;simp only [Bool.and_eq_true] at hb;obtain⟨h1,rfl,_⟩:=hφ;exact aDa _ _ _ hk h1 hb.1 hm hb.2
   ·rename_i hm hb;split at hp
    ·cases hp;simp only [Bool.and_eq_true] at hb;obtain⟨h1,rfl,_⟩:=hφ;exact aET _ _ _ _ hk h1 hb.1 hm hb.2
    cases hp
   cases hp
  cases hp
 ·split at hp
  ·rename_i hi hu hy;split at hp
   ·rename_i hj;cases hp;exact aGz _ _ _ _ hu hi hj
   cases hp
  cases hp
 ·split at hp
  ·rename_i hk hk';split at hp
   ·rename_i hm hb;cases hp;simp only [Bool.and_eq_true,Bool.not_eq_true'] at hb;obtain⟨rfl,h2,h3,rfl,rfl,h6,rfl,h7⟩:=hφ;have e1:=fV hb.1;have e2:=fV hb.2.2.2.1;subst e1;subst e2;exact aBx _ _ _ _ _ _ _ _ hk hk' h2 h3 (Nat.ne_of_beq_eq_false hb.2.1) (by rw [←hC.n0];exact hb.2.2.1) h6 hm hb.2.2.2.2 (xI h7)
   cases hp
  cases hp
 ·split at hp
  ·rename_i hk;cases hp;obtain⟨rfl,_⟩:=hφ;exact aIT _ _ hk
  cases hp
 cases hp
theorem nO(hC:C.Fits K){rem:Nat}: ∀{hs:List Hn} {s:S} {e:Eff} {φ:List Ob} {hs':List Hn},C6 C rem hs s=some (e,φ,hs')→Obs φ→s.le K (e.app s)
 | [],s,e,φ,hs',h,_=>by cases h;exact S.le.refl _ _
 |h::hs,s,e,φ,hs',hh,hφ=>by
  unfold C6 at hh;split at hh
  ·cases hh;exact S.le.refl _ _
  ·split at hh
   ·rename_i heq _ _;cases heq;exact nO hC hh hφ
   cases hh;exact S.le.refl _ _
  rename_i heq;cases heq;split at hh
  ·cases hh;exact S.le.refl _ _
  ·cases hh
  rename_i e1 φ1 h1;split at hh
  ·rename_i e2 φ2 hs2 h2;cases hh;obtain⟨p1,p2⟩:=Obs.app hφ;rw [dU];exact(G3 hC h1 p1).trans (nO hC h2 p2)
  cases hh
def yR(C:Cfg)(ops:Array Oper):List Oper→List Hn→S→Option (Eff×List Ob)
 | [],hs,s=>match C6 C 0 hs s with
  |some (e,φ,[])=>some (e,φ)
  |_=>none
 |o::l,hs,s=>match C6 C (l.length+1) hs s with
  |none=>none
  |some (e1,φ1,hs1)=>match evG C ops o hs1 (e1.app s) with
   |none=>none
   |some (e2,φ2,hs2)=>match yR C ops l hs2 (e2.app (e1.app s)) with
    |none=>none
    |some (e3,φ3)=>some (e1.cat (e2.cat e3),φ1++(φ2++φ3))
theorem aIh(hC:C.Fits K){ops:Array Oper}{Q:S→Prop}: ∀{l:List Oper} {hs:List Hn} {s:S} {e:Eff} {φ:List Ob},yR C ops l hs s=some (e,φ)→Obs φ→aBO K ops [] (e.app s) Q→aBO K ops l s Q
 | [],hs,s,e,φ,h,hφ,hQ=>by
  simp only [yR] at h;split at h
  ·rename_i e' φ' hp;cases h;exact B5 (nO hC hp hφ) hQ
  cases h
 |o::l,hs,s,e,φ,h,hφ,hQ=>by
  simp only [yR] at h;split at h
  ·cases h
  rename_i e1 φ1 hs1 h1;split at h
  ·cases h
  rename_i e2 φ2 hs2 h2;split at h
  ·cases h
  rename_i e3 φ3 h3;cases h;obtain⟨p1,p2⟩:=Obs.app hφ;obtain⟨p2,p3⟩:=Obs.app p2;rw [dU,dU] at hQ;exact B5 (nO hC h1 p1) (aLd (aIp hC h2 p2) (aIh hC h3 p3 hQ))
abbrev Ck:=Prop×List Nat×List (Nat×Bool)×Bool×List V×List (Option E)
def R9:Ck:=(False,[],[],false,[],[])
def R8:Ck:=(True,[],[],true,[],[])
def R7(s:S)(ks:List Nat)(ts:List (Nat×V))(hl:List (Nat×Option E))(r:Eff×List Ob):Ck:=
 (obP r.2,obL r.2,r.1.us,qW ks r.1.ts&&qW (aHZ hl) r.1.hs,X5 (r.1.app s) ts,aAi (r.1.app s) hl)
def R6(ψ:Prop)(ts:List (Nat×V))(hl:List (Nat×Option E))(ul:List (Nat×Bool))(r:Eff×List Ob):Ck:=
 (ψ,obR r.2,ul,true,vT ts,vT hl)
def cB(x:Option (Eff×List Ob))(n:Ck)(f:Eff×List Ob→Ck):Ck:=match x with
 |some r=>f r
 |none=>n
theorem aFE{x:Option (Eff×List Ob)}{s:S}{ks:List Nat}{ts:List (Nat×V)}{hl:List (Nat×Option E)}{ul:List (Nat×Bool)}{ψ:Prop}(hψ:ψ)
  (h:cB x R9 (R7 s ks ts hl)=cB x R8 (R6 ψ ts hl ul)): ∃e φ,x=some (e,φ)∧Obs φ∧(e.app s).le K (s.cl ks ts hl ul):=by
 cases x with
 |none=>simp [cB,R9,R8] at h
 |some r=>
  obtain⟨e,φ⟩:=r;simp only [cB,R7,R6,Prod.mk.injEq,Bool.and_eq_true] at h;obtain⟨h1,h2,h3,⟨h4,h5⟩,h6,h7⟩:=h;exact⟨e,φ,rfl,Obs.of (h1▸hψ) h2,aNj h3 h4 h5 h6 h7⟩
theorem rg{id:Nat}{l:List Oper}{s:S}{Q:Exit→S→Prop}(hC:C.Fits K)(hs:List Hn)(ks:List Nat)(ts:List (Nat×V))(hl:List (Nat×Option E))(ul:List (Nat×Bool)){ψ:Prop}(hψ:ψ)
  (h:cB (yR C l.toArray l hs s) R9 (R7 s ks ts hl)=cB (yR C l.toArray l hs s) R8 (R6 ψ ts hl ul)) (hn:Q .normal (s.cl ks ts hl ul)):eE K (.region id l.toArray false) s Q:=by obtain⟨e,φ,h1,h2,h3⟩:=aFE (K:=K) hψ h;refine D7 (s.cl ks ts hl ul) (aIh hC h1 h2 (aGS h3)) hn
def tmps:List Operand→List Nat
 | []=>[]
 | .tmp t::xs=>t::tmps xs
 |_::xs=>tmps xs
def aKK(ops:Array Oper)(o:Oper):List Nat:=match o.guard with
 |none=>[]
 |some (j,_)=>match (ops[j]?).bind (·.dst) with
  |some t=>[t]
  |none=>[]
def aFw(o:Oper)(hs:List Hn):List Hn:=match o.guard with
 |none=>hs
 |some _=>hs.tail
def aA0(ops:Array Oper)(o:Oper)(hs:List Hn)(s:S):Look:=⟨aKK ops o++tmps o.op.operands.toList,idO o (o.op.operands.toList.map s.get) (aFw o hs)⟩
theorem I6{s s':S}: ∀{xs:List Operand},(∀i,i∈tmps xs→s.t i=s'.t i)→xs.map s.get=xs.map s'.get
 | [],_=>rfl
 | .tmp t::xs,h=>by
  simp only [List.map_cons,List.cons.injEq];exact⟨h t uX,I6 fun i hi=>h i (r9 _ hi)⟩
 | .const _::xs,h| .global _::xs,h| .func _::xs,h=>by simp only [List.map_cons,List.cons.injEq];exact⟨rfl,I6 h⟩
theorem aDP{ids:List Nat}{H H':Nat→Option E}(h: ∀k,k∈ids→H k=H' k):Y8 ids H=Y8 ids H':=by
 funext k;unfold Y8;cases hb:nV k ids with
 |true=>exact h k (xJ hb)
 |false=>rfl
theorem aDN{ids:List Nat}{u u':Nat→Bool}(h: ∀k,k∈ids→u k=u' k):Y7 ids u=Y7 ids u':=by
 funext k;unfold Y7;cases hb:nV k ids with
 |true=>exact h k (xJ hb)
 |false=>rfl
theorem aIz{o:Oper}{s s':S}{vals:List V}{hs:List Hn}(h: ∀k,k∈idO o vals hs→s.H k=s'.H k∧s.u k=s'.u k):evA C o vals s hs=evA C o vals s' hs:=by unfold evA;rw [aDP fun k hk=>(h k hk).1,aDN fun k hk=>(h k hk).2]
theorem aIo{ops:Array Oper}{o:Oper}{hs:List Hn}{s s':S}(h:(aA0 ops o hs s).same s' s):evG C ops o hs s'=evG C ops o hs s:=by
 obtain⟨h1,h2⟩:=h;have hv:o.op.operands.toList.map s'.get=o.op.operands.toList.map s.get:=I6 fun i hi=>h1 i (B6.2 (.inr hi));have ha: ∀hs2,(∀k,k∈idO o (o.op.operands.toList.map s.get) hs2→k∈idO o (o.op.operands.toList.map s.get) (aFw o hs))→evA C o (o.op.operands.toList.map s.get) s' hs2=evA C o (o.op.operands.toList.map s.get) s hs2:=fun hs2 h3=>
  aIz fun k hk=>h2 k (h3 k hk)
 unfold evG;rw [hv];cases hg:o.guard with
 |none=>exact ha hs (fun k hk=>by simp only [aFw,hg];exact hk)
 |some p=>
  obtain⟨j,want⟩:=p;have hgv:gV ops j s'=gV ops j s:=by
   unfold gV;cases ht:(ops[j]?).bind (·.dst) with
   |none=>rfl
   |some t=>
    have:=h1 t (B6.2 (.inl (by unfold aKK;rw [hg];simp only [ht];exact List.mem_singleton.2 rfl)));simp only [this]
  simp only [hgv];cases hs with
  |nil=>rfl
  |cons x hs=>
   have:=ha hs fun k hk=>by simp only [aFw,hg,List.tail];exact hk
   cases x<;>first|rfl|(dsimp only;rw [this])
def T7(C:Cfg)(rem:Nat):List Hn→S→Option (Eff×List Ob×List Hn×Look)
 | .at m::hs,s=>match Nat.beq m rem with
  |true=>T7 C rem hs s
  |false=>some (.nil,[],.at m::hs,⟨[],[]⟩)
 | .frzs is k::hs,s=>match rU C (.frzs is k) s with
  |some (some (e,φ))=>match T7 C rem hs (e.app s) with
   |some (e',φ',hs',lk)=>some (e.cat e',φ++φ',hs',⟨is++lk.ts,k::lk.ks⟩)
   |none=>none
  |_=>none
 | .fz k is bs::hs,s=>match rU C (.fz k is bs) s with
  |some (some (e,φ))=>match T7 C rem hs (e.app s) with
   |some (e',φ',hs',lk)=>some (e.cat e',φ++φ',hs',⟨is++lk.ts,k::(bs++lk.ks)⟩)
   |none=>none
  |_=>none
 | .shd k::hs,s=>match rU C (.shd k) s with
  |some (some (e,φ))=>match T7 C rem hs (e.app s) with
   |some (e',φ',hs',lk)=>some (e.cat e',φ++φ',hs',⟨lk.ts,k::lk.ks⟩)
   |none=>none
  |_=>none
 |hs,_=>some (.nil,[],hs,⟨[],[]⟩)
theorem aDH{C:Cfg}{k:Nat}{s s':S}(h2:s'.H k=s.H k):rU C (.shd k) s'=rU C (.shd k) s:=by unfold rU;simp only [h2]
theorem aAk{k g z n:Nat}{s s':S}: ∀{is:List Nat},(∀i,i∈is→s'.t i=s.t i)→aD6 k g z n s' is=aD6 k g z n s is
 | [],_=>rfl
 |i::is,h=>by unfold aD6;rw [h i uX,aAk fun x hx=>h x (r9 _ hx)]
theorem aFY{is:List Nat}{k:Nat}{s s':S}(h1: ∀i,i∈is→s'.t i=s.t i)(h2:s'.H k=s.H k):rU C (.frzs is k) s'=rU C (.frzs is k) s:=by
 unfold rU;dsimp only;rw [h2];split
 ·rw [aAk h1]
 rfl
theorem aB7{k g z n:Nat}{new:V}{s s':S}: ∀{is:List Nat},(∀i,i∈is→s'.t i=s.t i)→Y1 k g z n new s' is=Y1 k g z n new s is
 | [],_=>rfl
 |i::is,h=>by simp only [Y1,h i List.mem_cons_self,aB7 fun x hx=>h x (List.mem_cons_of_mem _ hx)]
theorem aB8{k g z n:Nat}{new:V}{s s':S}: ∀{bs:List Nat},(∀b,b∈bs→s'.H b=s.H b)→E3 k g z n new s' bs=E3 k g z n new s bs
 | [],_=>rfl
 |b::bs,h=>by unfold E3;rw [h b uX,aB8 fun x hx=>h x (r9 _ hx)]
theorem aDG{is bs:List Nat}{k:Nat}{s s':S}(h1: ∀i,i∈is→s'.t i=s.t i)(h2:s'.H k=s.H k)(h3: ∀b,b∈bs→s'.H b=s.H b):rU C (.fz k is bs) s'=rU C (.fz k is bs) s:=by
 unfold rU;dsimp only;rw [h2];split
 ·rw [aB7 h1,aB8 h3]
 rfl
theorem aAL{α:Type}{f g:Nat→α}{r:Nat}(h:f r=g r): ∀(l:List (Nat×α)),cF f l r=cF g l r:=by
 intro l;induction l generalizing f g with
 |nil=>exact h
 |cons p l ih=>
  obtain⟨d,v⟩:=p;simp only [cF];apply ih;by_cases hd:r=d
  ·subst hd;rw [aI,aI]
  rw [aH _ _ _ _ hd,aH _ _ _ _ hd];exact h
theorem lO{lk:Look}{s s':S}(e:Eff)(h:lk.same s' s):lk.same (e.app s') (e.app s):=
 ⟨fun i hi=>aAL (h.1 i hi) _,fun k hk=>⟨aAL (h.2 k hk).1 _,aAL (h.2 k hk).2 _⟩⟩
theorem xU(hC:C.Fits K){rem:Nat}: ∀{hs:List Hn} {s:S} {e:Eff} {φ:List Ob} {hs':List Hn} {lk:Look},T7 C rem hs s=some (e,φ,hs',lk)→Obs φ→ ∀s',lk.same s' s→s'.le K (e.app s')
 | .at m::hs,s,e,φ,hs',lk,h,hφ,s',hs2=>by
  unfold T7 at h;split at h
  ·exact xU hC h hφ s' hs2
  cases h;exact S.le.refl _ _
 | .frzs is k::hs,s,e,φ,hs',lk,h,hφ,s',hs2=>by
  unfold T7 at h;split at h
  ·rename_i e1 φ1 h1;split at h
   ·rename_i e2 φ2 hs3 lk2 h2;cases h;obtain⟨p1,p2⟩:=Obs.app hφ;have q:rU C (.frzs is k) s'=some (some (e1,φ1)):=(aFY (fun i hi=>hs2.1 i (vAR _ hi)) (hs2.2 k uX).1).trans h1;rw [dU];exact(G3 hC q p1).trans (xU hC h2 p2 (e1.app s') (lO e1 ⟨fun i hi=>hs2.1 i (vAX _ hi),fun k hk=>hs2.2 k (r9 _ hk)⟩))
   cases h
  cases h
 | .fz k is bs::hs,s,e,φ,hs',lk,h,hφ,s',hs2=>by
  unfold T7 at h;split at h
  ·rename_i e1 φ1 h1;split at h
   ·rename_i e2 φ2 hs3 lk2 h2;cases h;obtain⟨p1,p2⟩:=Obs.app hφ;have q:rU C (.fz k is bs) s'=some (some (e1,φ1)):=(aDG (fun i hi=>hs2.1 i (vAR _ hi)) (hs2.2 k uX).1 fun b hb=>(hs2.2 b (r9 _ (vAR _ hb))).1).trans h1;rw [dU];exact(G3 hC q p1).trans (xU hC h2 p2 (e1.app s') (lO e1 ⟨fun i hi=>hs2.1 i (vAX _ hi),fun k hk=>hs2.2 k (r9 _ (vAX _ hk))⟩))
   cases h
  cases h
 | .shd k::hs,s,e,φ,hs',lk,h,hφ,s',hs2=>by
  unfold T7 at h;split at h
  ·rename_i e1 φ1 h1;split at h
   ·rename_i e2 φ2 hs3 lk2 h2;cases h;obtain⟨p1,p2⟩:=Obs.app hφ;have q:rU C (.shd k) s'=some (some (e1,φ1)):=(aDH (hs2.2 k uX).1).trans h1;rw [dU];exact(G3 hC q p1).trans (xU hC h2 p2 (e1.app s') (lO e1 ⟨hs2.1,fun k hk=>hs2.2 k (r9 _ hk)⟩))
   cases h
  cases h
 | [],s,e,φ,hs',lk,h,_,s',_=>by cases h;exact S.le.refl _ _
 | .tre _ _ _::_,s,e,φ,hs',lk,h,_,s',_| .foc _ _ _ _ _::_,s,e,φ,hs',lk,h,_,s',_| .unf _ _ _ _::_,s,e,φ,hs',lk,h,_,s',_| .lt _ _ _::_,s,e,φ,hs',lk,h,_,s',_| .flt _ _ _ _::_,s,e,φ,hs',lk,h,_,s',_| .unt _ _ _::_,s,e,φ,hs',lk,h,_,s',_| .growa _ _ _ _::_,s,e,φ,hs',lk,h,_,s',_| .cut _ _ _::_,s,e,φ,hs',lk,h,_,s',_
 | .row _::_,s,e,φ,hs',lk,h,_,s',_| .rows _::_,s,e,φ,hs',lk,h,_,s',_| .str _::_,s,e,φ,hs',lk,h,_,s',_| .int _::_,s,e,φ,hs',lk,h,_,s',_| .nat _::_,s,e,φ,hs',lk,h,_,s',_
 | .b _::_,s,e,φ,hs',lk,h,_,s',_| .y _::_,s,e,φ,hs',lk,h,_,s',_| .v _::_,s,e,φ,hs',lk,h,_,s',_| .frz _ _::_,s,e,φ,hs',lk,h,_,s',_| .grow _ _ _::_,s,e,φ,hs',lk,h,_,s',_
 | .nzc _::_,s,e,φ,hs',lk,h,_,s',_| .frzc _ _ _::_,s,e,φ,hs',lk,h,_,s',_| .growc _ _ _ _::_,s,e,φ,hs',lk,h,_,s',_| .rgs _ _ _::_,s,e,φ,hs',lk,h,_,s',_| .rgc _ _ _ _::_,s,e,φ,hs',lk,h,_,s',_
 | .len _ _::_,s,e,φ,hs',lk,h,_,s',_| .lenc _ _ _::_,s,e,φ,hs',lk,h,_,s',_| .fp _ _::_,s,e,φ,hs',lk,h,_,s',_| .rn _ _ _ _::_,s,e,φ,hs',lk,h,_,s',_| .ren _ _ _::_,s,e,φ,hs',lk,h,_,s',_| .vc _ _ _ _::_,s,e,φ,hs',lk,h,_,s',_=>by cases h;exact S.le.refl _ _
theorem OpG.pre{ops:Array Oper}{o:Oper}{s s1 s2:S}(hl:s.le K s1)(h:OpG K ops o s1 s2):OpG K ops o s s2:=by
 intro β a w next Q hr hk
 obtain⟨β',hr'⟩:=hl β a w hr;exact h β' a w next Q hr' hk
def evD(C:Cfg)(ops:Array Oper):List Oper→List Hn→S→Option (List (Eff×Look)×List Ob)
 | [],hs,_=>match hs with
  | []=>some ([],[])
  |_=>none
 |o::l,hs,s=>match T7 C (l.length+1) hs s with
  |none=>none
  |some (e0,φ0,hs0,lk)=>match evG C ops o hs0 (e0.app s) with
   |none=>none
   |some (e,φ,hs')=>match evD C ops l hs' (e.app (e0.app s)) with
    |none=>none
    |some (es,φ')=>some ((e0.cat e,⟨lk.ts++(aA0 ops o hs0 (e0.app s)).ts,lk.ks++(aA0 ops o hs0 (e0.app s)).ks⟩)::es,φ0++(φ++φ'))
def aKn:List (Eff×Look)→Eff
 | []=> .nil
 |(e,_)::es=>e.cat (aKn es)
theorem aIs(hC:C.Fits K){ops:Array Oper}{Q:S→Prop}: ∀{l:List Oper} {hs:List Hn} {s:S} {es:List (Eff×Look)} {φ:List Ob},evD C ops l hs s=some (es,φ)→Obs φ→Q ((aKn es).app s)→Draws K ops l es s Q
 | [],hs,s,es,φ,h,_,hQ=>by
  simp only [evD] at h;split at h
  ·cases h;exact hQ
  cases h
 |o::l,hs,s,es,φ,h,hφ,hQ=>by
  simp only [evD] at h;split at h
  ·cases h
  rename_i e0 φ0 hs0 lk h0;split at h
  ·cases h
  rename_i e φ1 hs1 h1;split at h
  ·cases h
  rename_i es2 φ2 h2;cases h;obtain⟨p0,p1⟩:=Obs.app hφ;obtain⟨p1,p2⟩:=Obs.app p1;simp only [aKn,dU] at hQ;refine⟨fun s' hs'=>?_,by rw [dU];exact aIs hC h2 p2 hQ⟩;rw [dU];refine OpG.pre (xU hC h0 p0 s' ⟨fun i hi=>hs'.1 i (vAR _ hi),fun k hk=>hs'.2 k (vAR _ hk)⟩) ?_;have hs2:(aA0 ops o hs0 (e0.app s)).same (e0.app s') (e0.app s):=lO e0 ⟨fun i hi=>hs'.1 i (vAX _ hi),fun k hk=>hs'.2 k (vAX _ hk)⟩;exact aIp hC ((aIo hs2).trans h1) p1
def evR(C:Cfg)(l:List Oper)(hs:List Hn)(s:S):Option (Eff×List Ob):=
 match C6 C l.length hs s with
 |none=>none
 |some (e0,φ0,hs1)=>match evD C l.toArray l hs1 (e0.app s) with
  |none=>none
  |some (es,φ)=>match pairsOk l.toArray l.length 0 es&&rA 0 l with
   |true=>some (e0.cat (aKn es),φ0++φ)
   |false=>none
theorem aLc{c:Code}{s s2:S}{Q:Exit→S→Prop}(h:eE K c s fun e s'=>match e with| .normal=>s'.le K s2|_=>False)(hn:Q .normal s2):eE K c s Q:=by
 intro β a w Q' hr hk;refine h β a w Q' hr ?_;intro e s' β' a' w' q r;cases e with
 |normal=>obtain⟨β2,r2⟩:=q β' a' w' r;exact hk _ _ β2 a' w' hn r2
 |exit=>exact q.elim
 |goto=>exact q.elim
 |ret=>exact q.elim
 |panic=>exact q.elim
 |outgrown=>exact q.elim
theorem rd{id:Nat}{l:List Oper}{s:S}{Q:Exit→S→Prop}(hC:C.Fits K)(hm:K.P.follows .mixedOrders=true)(hs:List Hn)(ks:List Nat)(ts:List (Nat×V))(hl:List (Nat×Option E))(ul:List (Nat×Bool)){ψ:Prop}(hψ:ψ)
  (h:cB (evR C l hs s) R9 (R7 s ks ts hl)=cB (evR C l hs s) R8 (R6 ψ ts hl ul)) (hn:Q .normal (s.cl ks ts hl ul)):eE K (.region id l.toArray true) s Q:=by
 obtain⟨e,φ,h1,h2,h3⟩:=aFE (K:=K) hψ h;unfold evR at h1;split at h1
 ·cases h1
 rename_i e0 φ0 hs1 hp;split at h1
 ·cases h1
 rename_i es φ1 hd;split at h1
 ·rename_i hb;cases h1;simp only [Bool.and_eq_true] at hb;obtain⟨p1,p2⟩:=Obs.app h2;refine vR (nO hC hp p1) (aLc (s2:=s.cl ks ts hl ul) (aGR es hm hb.1 hb.2 (aIs hC hd p2 ?_)) hn);rw [dU] at h3;exact h3
 cases h1
def uZ:List (Nat×E)→List (Nat×Option E)
 | []=>[]
 |(k,e)::l=>(k,some e)::uZ l
def wZ:List Nat→List (Nat×Bool)
 | []=>[]
 |k::l=>(k,true)::wZ l
def dG(ts:List (Nat×V))(hl:List (Nat×E))(us:List Nat):S:={t:=cF mO ts,H:=cF l7 (uZ hl),u:=cF gI (wZ us)}
def aJG(u:Nat→Bool):List (Nat×V)→Bool
 | []=>true
 |(_,v)::l=>v.ok u&&aJG u l
def aKd(u:Nat→Bool):List (Nat×E)→Bool
 | []=>true
 |(k,e)::l=>u k&&(e.ok u&&aKd u l)
def aJk(u:Nat→Bool):List Nat→Bool
 | []=>true
 |k::l=>u k&&aJk u l
theorem aE5{u:Nat→Bool}: ∀{l:List (Nat×V)},aJG u l=true→ ∀i v,(i,v)∈l→v.ok u=true
 |(i0,v0)::l,h,i,v,hm=>by
  simp only [aJG,Bool.and_eq_true] at h;rcases qE.1 hm with hm|hm
  ·cases hm;exact h.1
  exact aE5 h.2 i v hm
theorem aFu{u:Nat→Bool}: ∀{l:List (Nat×E)},aKd u l=true→ ∀k e,(k,some e)∈uZ l→u k=true∧e.ok u=true
 |(i0,v0)::l,h,i,v,hm=>by
  simp only [aKd,Bool.and_eq_true] at h;simp only [uZ] at hm;rcases qE.1 hm with hm|hm
  ·cases hm;exact⟨h.1,h.2.1⟩
  exact aFu h.2.2 i v hm
theorem aE4{u:Nat→Bool}: ∀{l:List Nat},aJk u l=true→ ∀k b,(k,b)∈wZ l→u k=true
 |k0::l,h,k,b,hm=>by
  simp only [aJk,Bool.and_eq_true] at h;simp only [wZ] at hm;rcases qE.1 hm with hm|hm
  ·cases hm;exact h.1
  exact aE4 h.2 k b hm
def aJ7(n0:Nat)(s:S)(ts:List (Nat×V))(hl:List (Nat×E))(us:List Nat):List V×List (Option E)×Bool:=
 (X5 s ts,aAi s (uZ hl),aJG (cF gI (wZ us)) ts&&(aKd (cF gI (wZ us)) hl&&(aJk s.u us&&iW n0 (cF gI (wZ us)))))
theorem leS{s:S}{ts:List (Nat×V)}{hl:List (Nat×E)}{us:List Nat}(h:aJ7 K.n0 s ts hl us=(vT ts,vT (uZ hl),true)):s.le K (dG ts hl us):=by
 simp only [aJ7,Prod.mk.injEq,Bool.and_eq_true] at h;obtain⟨h1,h2,h3,h4,h5,h6⟩:=h;refine aKv (s':=dG ts hl us) ?_ ?_ ?_ h6
 ·intro i;show cF mO ts i= .junk∨(VLe _ (cF mO ts i)∧(cF mO ts i).ok _=true)
  rcases dI ts mO i with ⟨a1,a2⟩|⟨v,a1,a2⟩
  ·exact .inl a2
  rw [a2];exact .inr ⟨I5 h1 i v a1,aE5 h3 i v a1⟩
 ·intro k e he;have he:cF l7 (uZ hl) k=some e:=he;rcases dI (uZ hl) l7 k with ⟨a1,a2⟩|⟨v,a1,a2⟩
  ·rw [a2] at he;cases he
  rw [a2] at he;subst he;obtain⟨b1,b2⟩:=aFu h4 k e a1;exact⟨M8 h2 k e a1,b1,b2⟩
 intro k hk;have hk:cF gI (wZ us) k=true:=hk;rcases dI (wZ us) gI k with ⟨a1,a2⟩|⟨v,a1,a2⟩
 ·rw [a2] at hk;cases hk
 exact aE4 h5 k v a1
theorem aJf{ι:Type}{x y:Code}{s:S}{Q:Exit→S→Prop}(I:ι→S)(p:ι→Prop)(h1:eE K x s (aC9 (fun s1=> ∃i,p i∧s1.le K (I i)) Q))(h2: ∀i,p i→eE K y (I i) Q):eE K (.seq x y) s Q:=by
 refine aAF (r7 h1 fun e s' q=>?_);cases e with
 |normal=>obtain⟨i,hp,hl⟩:=q;exact vR hl (h2 i hp)
 |exit=>exact q
 |goto=>exact q
 |ret=>exact q
 |panic=>exact q
 |outgrown=>exact q
theorem aNU{v r:V}(h:A2 r v=r):VLe v r:=h▸aA6 r v
def zP(s:S):List E→Nat→List (Option E)
 | [],_=>[]
 |e::l,k=>aKg (some e) (s.H k)::zP s l (k+1)
def uJ:List E→List (Option E)
 | []=>[]
 |e::l=>some e::uJ l
def Y5(u:Nat→Bool):List E→Bool
 | []=>true
 |e::l=>e.ok u&&Y5 u l
theorem Y6{s:S}: ∀{l:List E} {k:Nat},zP s l k=uJ l→ ∀i e,l[i]? =some e→ ∃e0,s.H (k+i)=some e0∧ELe e0 e
 |e0::l,k,h,0,e,he=>by
  simp only [zP,uJ,List.cons.injEq] at h;simp at he;subst he;exact aFy h.1
 |e0::l,k,h,i+1,e,he=>by
  simp only [zP,uJ,List.cons.injEq] at h
  have:=Y6 h.2 i e (by simpa using he)
  rwa [show k+1+i=k+(i+1) by omega] at this
theorem aCb{u:Nat→Bool}: ∀{l:List E},Y5 u l=true→ ∀(i:Nat) e,l[i]? =some e→e.ok u=true
 |e0::l,h,0,e,he=>by simp only [Y5,Bool.and_eq_true] at h;simp at he;subst he;exact h.1
 |e0::l,h,i+1,e,he=>by simp only [Y5,Bool.and_eq_true] at h;exact aCb h.2 i e (by simpa using he)
end
end Go.Lift
