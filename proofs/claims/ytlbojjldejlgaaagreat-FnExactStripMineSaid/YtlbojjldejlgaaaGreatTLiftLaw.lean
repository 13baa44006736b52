/- Plain tools for showing what the plain functions come to. -/
import Derived.Test.YtlbojjldejlgaaaGreatTLiftLib
import Derived.Lib.SplitLaws
namespace Go.Lift
open Go
theorem aM{n:Int}(h: -9223372036854775808≤n∧n≤9223372036854775807):wr n=n:=IntWalk.i64_in n (by omega)
def Ev{α:Type}(o:Option α)(Q:α→Prop):Prop:= ∃r,o=some r∧Q r
section
variable {α β R σ:Type} {Q:R→Prop}
theorem Ev.some{r:R}(h:Q r):Ev (some r) Q:=⟨r,rfl,h⟩
theorem Ev.bind{o:Option α}{f:α→Option R}(h:Ev o fun x=>Ev (f x) Q):Ev (Option.bind o f) Q:=by obtain⟨x,rfl,r,h1,h2⟩:=h;exact⟨r,h1,h2⟩
theorem kD{o:Option α}{f:α→Option R}{P:α→Prop}(h:Ev o P)(k: ∀x,P x→Ev (f x) Q):Ev (Option.bind o f) Q:=by obtain⟨x,rfl,h⟩:=h;exact k x h
theorem aB{o:Option α}{f:α→Option R}{x:α}(h:o=Option.some x)(k:Ev (f x) Q):Ev (Option.bind o f) Q:=by subst h;exact k
theorem Ev.mono{o:Option R}{P:R→Prop}(h:Ev o P)(k: ∀x,P x→Q x):Ev o Q:=by obtain⟨x,rfl,h⟩:=h;exact⟨x,rfl,k x h⟩
theorem Ev.cond{c:Bool}{A B:Option R}(h1:c=true→Ev A Q)(h2:c=false→Ev B Q):Ev (bif c then A else B) Q:=by
 cases c with
 |true=>exact h1 rfl
 |false=>exact h2 rfl
theorem aK{p:Prop}[Decidable p]{A B:Option R}(h1:p→Ev A Q)(h2: ¬p→Ev B Q):Ev (bif decide p then A else B) Q:=
 Ev.cond (fun h=>h1 (of_decide_eq_true h)) fun h=>h2 (of_decide_eq_false h)
theorem bQ{p:Prop}[Decidable p]{A B:Option R}(h1: ¬p→Ev A Q)(h2:p→Ev B Q):Ev (bif !decide p then A else B) Q:=
 Ev.cond (fun h=>h1 (by simpa using h)) fun h=>h2 (by simpa using h)
theorem Ev.jn{J:σ→Option R}{t:(σ→Option R)→Option R}(P:σ→Prop)(h1: ∀j,(∀z,P z→Ev (j z) Q)→Ev (t j) Q)(h2: ∀z,P z→Ev (J z) Q):Ev (jn J t) Q:=h1 J h2
theorem Ev.loop{body:(σ→Option R)→σ→Option R}(I:σ→Prop)(μ :σ→Nat)
  (h: ∀again x,I x→(∀y,I y→ μ y< μ x→Ev (again y) Q)→Ev (body again x) Q): ∀(n:Nat) (x:σ),I x→ μ x<n→Ev (aL body n x) Q
 |0,_,_,hm=>absurd hm (vBC _)
 |n+1,x,hI,hm=>h _ x hI fun y hy hlt=>Ev.loop I μ h n y hy (by omega)
theorem Ev.eq{o:Option R}{r:R}(h:Ev o fun x=>x=r):o=Option.some r:=by obtain⟨x,rfl,rfl⟩:=h;rfl
theorem Ev.of{o:Option R}{r:R}(h:o=Option.some r)(k:Q r):Ev o Q:=⟨r,h,k⟩
end
theorem aS{α:Type}{l:List α}{i:Nat}{x:α}(h:l[i]? =some x):ix l (i:Int)=some x:=by unfold ix;rw [if_pos (by omega),Int.toNat_natCast];exact h
theorem aAb{α:Type}{l:List α}{i:Int}(h0:0≤i)(h:i<l.length): ∃x,ix l i=some x∧l[i.toNat]? =some x:=by
 have hl:i.toNat<l.length:=by omega
 exact⟨l[i.toNat],by unfold ix;rw [if_pos h0,dH hl],dH hl⟩
theorem I8{α:Type}{l:List α}{a b:Int}(h0:0≤a)(h1:a≤b)(h2:b≤l.length):sub l a b=some ((l.take b.toNat).drop a.toNat):=by unfold sub;rw [if_pos ⟨h0,h1,h2⟩]
theorem dO{α:Type}{a b:List α}(h:a.length+b.length≤1000000000):app a b=some (a++b):=by unfold app;rw [if_pos h]
theorem aIK{a b:List UInt8}(h:(a.length:Int)+b.length≤9223372036854775807):cat a b=some (a++b):=by unfold cat;rw [if_pos h]
end Go.Lift
